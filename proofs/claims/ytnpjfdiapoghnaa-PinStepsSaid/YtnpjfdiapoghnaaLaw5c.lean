/- Layer 5's statement PinSteps. -/
import Derived.Test.YtnpjfdiapoghnaaLaw5b
import Derived.Test.YtnpjfdiapoghnaaSteps
namespace Go.Proofs.Ytnpjfdiapoghnaa
open Go Go.RowKit

theorem env_cells {W : World} {b : Nat} {th sl ch wo ge sp tr who : Int} {g : Nat} (hX : W.heap[b]? = some (.cells #[.int .i64 th, .int .i64 sl, .int .i64 ch, .int .i64 wo, .int .i64 ge, .int .i64 sp, .int .i64 tr, .pointer (some ⟨g, 0, none⟩), .int .i64 who] 87 (0, 0))) :
    W.cell? ⟨b, 0, none⟩ = some (.int .i64 th) ∧ W.cell? ⟨b, 1, none⟩ = some (.int .i64 sl) ∧ W.cell? ⟨b, 2, none⟩ = some (.int .i64 ch) ∧ W.cell? ⟨b, 3, none⟩ = some (.int .i64 wo) ∧ W.cell? ⟨b, 4, none⟩ = some (.int .i64 ge) ∧ W.cell? ⟨b, 5, none⟩ = some (.int .i64 sp) ∧ W.cell? ⟨b, 6, none⟩ = some (.int .i64 tr) ∧ W.cell? ⟨b, 7, none⟩ = some (.pointer (some ⟨g, 0, none⟩)) ∧ W.cell? ⟨b, 8, none⟩ = some (.int .i64 who) :=
  ⟨cell_of_row _ b 0 _ _ _ hX, cell_of_row _ b 1 _ _ _ hX, cell_of_row _ b 2 _ _ _ hX, cell_of_row _ b 3 _ _ _ hX, cell_of_row _ b 4 _ _ _ hX, cell_of_row _ b 5 _ _ _ hX, cell_of_row _ b 6 _ _ _ hX, cell_of_row _ b 7 _ _ _ hX, cell_of_row _ b 8 _ _ _ hX⟩

/-- All ways through a region end alike: what follows is shown once. -/
structure Box (P : Prop) : Prop where
  out : P
theorem cutK {K Q : Prop} (h : Box K → Q) (k : K) : Q := h ⟨k⟩
/-- What a step touched. -/
theorem Next.last {wk : Nat} {who : Int} {m m' : Ms} {pc ep pc' ep' : Int} {d : Bool} (h : Next wk who m pc ep d m' pc' ep') :
    m'.steps = m.steps + 1 ∧ m'.lw = who ∧ ((m'.la = 0 ∧ m'.lc = false) ∨ (d = false ∧ m'.la = 6 + wk ∧ m'.lc = true) ∨ (d = false ∧ m'.la = 6 + wk ∧ m'.lc = false)) := by
  rcases h with ⟨_, _, rfl, _⟩ | ⟨_, h1, rfl, _⟩ | ⟨_, _, _, rfl, _⟩ | ⟨_, _, _, rfl, _⟩
  · exact ⟨rfl, rfl, .inl ⟨rfl, rfl⟩⟩
  · refine ⟨rfl, rfl, .inr ?_⟩
    cases hc : (m.st who (6 + wk) (IntKind.u64.wrap (ep + 1))).lc
    · exact .inr ⟨h1, by show ((6 + wk : Nat) : Int) = _; omega, rfl⟩
    · exact .inl ⟨h1, by show ((6 + wk : Nat) : Int) = _; omega, rfl⟩
  · exact ⟨rfl, rfl, .inl ⟨rfl, rfl⟩⟩
  · exact ⟨rfl, rfl, .inl ⟨rfl, rfl⟩⟩

set_option linter.unusedSimpArgs false in
set_option maxHeartbeats 4000000 in
set_option maxRecDepth 100000 in
theorem PinSteps_any (A : Option Addr) (n c : Nat) (l : Nat → Bool) (w : World) (hl : ComesB w A n l) :
    Calls Try.prog 20 #[.slice A n c] w fun e w' => e = .returned (.bool true) ∧ Below w.heap.size w w' := by
  have HL := Lib.hid hl
  have hn := hl.1
  clear hl
  go_enter Try.func20, Try.ntmps20
  go_wp2_with fail
  refine (arena5_any 2 _).mono ?_
  rintro e w1 ⟨g, gw, gh, rfl, hM, hb1, b0, b1, b2⟩
  go_wp2_with fail
  refine (awake5_any _).mono ?_
  rintro e w2 ⟨rfl, hb2⟩
  have hl := hM.lt
  have hlw := hM.ltw
  have hlh := hM.lth
  have hz1 := hb1.size
  have hz2 := hb2.size
  have hX0 : (w1.alloc (.cells #[.int .i64 4, .int .i64 1, .int .i64 1, .int .i64 17, .int .i64 1, .int .i64 0, .int .i64 1, .pointer (some ⟨g, 0, none⟩), .int .i64 2] 87)).heap[w1.heap.size]? = some (.cells #[.int .i64 4, .int .i64 1, .int .i64 1, .int .i64 17, .int .i64 1, .int .i64 0, .int .i64 1, .pointer (some ⟨g, 0, none⟩), .int .i64 2] 87 (0, 0)) := heap_alloc_new w1 _
  have hz3 : (w1.alloc (.cells #[.int .i64 4, .int .i64 1, .int .i64 1, .int .i64 17, .int .i64 1, .int .i64 0, .int .i64 1, .pointer (some ⟨g, 0, none⟩), .int .i64 2] 87)).heap.size = w1.heap.size + 1 := by simp
  rw [hz3] at hz2
  have np : w2.heap.size ≠ g ∧ w2.heap.size ≠ gw ∧ w2.heap.size ≠ gh := by omega
  have hnx : w1.heap.size ∉ [w2.heap.size, g, gw, gh] := by simp; omega
  have hbl : ∀ k ∈ [w2.heap.size, g, gw, gh], w.heap.size ≤ k := by simp; omega
  have hB2 : Below w.heap.size w (w2.alloc (.cells #[.int .i64 0, .int .u64 0] 91)) := ((hb1.alloc hz1 _).trans (hb2.mono (by omega))).alloc (by omega) _
  have hM2 := ((hM.below (below_new w1 (.cells #[.int .i64 4, .int .i64 1, .int .i64 1, .int .i64 17, .int .i64 1, .int .i64 0, .int .i64 1, .pointer (some ⟨g, 0, none⟩), .int .i64 2] 87))).below hb2).below (below_new w2 (.cells #[.int .i64 0, .int .u64 0] 91))
  have hX2 : (w2.alloc (.cells #[.int .i64 0, .int .u64 0] 91)).heap[w1.heap.size]? = some (.cells #[.int .i64 4, .int .i64 1, .int .i64 1, .int .i64 17, .int .i64 1, .int .i64 0, .int .i64 1, .pointer (some ⟨g, 0, none⟩), .int .i64 2] 87 (0, 0)) := by
    rw [Below.heap_alloc _ _ _ (by omega), hb2.block _ (by omega)]; exact hX0
  have hI2 : InAt (w2.alloc (.cells #[.int .i64 0, .int .u64 0] 91)) w2.heap.size 0 0 := heap_alloc_new w2 _
  have hG0 : Hid (InGood 2 0 (freshOne 4 1 17) 0 0) := ⟨by decide, by decide, .inl rfl, fun h => absurd h (by decide), fun h => absurd h (by omega)⟩
  have hs2 : w.heap.size ≤ (w2.alloc (.cells #[.int .i64 0, .int .u64 0] 91)).heap.size := by simp; omega
  clear hM hX0 hz3 hl hlw hlh
  go_wp2_with fail
  go_loopw [6] (fun i wr => ∃ (k : Nat) (m : Ms) (pc ep : Int), i = .int .i64 k ∧ Hid (InGood 2 k m pc ep) ∧ MemAt wr g gw gh m ∧ InAt wr w2.heap.size pc ep ∧ wr.heap[w1.heap.size]? = some (.cells #[.int .i64 4, .int .i64 1, .int .i64 1, .int .i64 17, .int .i64 1, .int .i64 0, .int .i64 1, .pointer (some ⟨g, 0, none⟩), .int .i64 2] 87 (0, 0)) ∧ Below w.heap.size w wr ∧ w.heap.size ≤ wr.heap.size) (fun i _ => 200 - (intOf i).toNat)
  case atStart => exact ⟨0, _, 0, 0, rfl, hG0, hM2, hI2, hX2, hB2, hs2⟩
  case round =>
    rename_i wr
    obtain ⟨k, m, pc, ep, rfl, hG, hM, hI, hX, hB, hs⟩ := hrel
    clear hG0 hM2 hI2 hX2 hB2 hs2
    have hk : k ≤ 103 := by
      have := hG.out.late
      omega
    have hst : m.steps < 4611686018427387904 := by have := hG.out.steps; omega
    have hst0 := hM.st0
    obtain ⟨k0, k1, k2, k3, k4, k5, k6, k7, k8⟩ := env_cells hX
    have hki : (k : Int) < 200 := by omega
    have hkb : k < 9223372036854775807 := by omega
    go_wp2_with fail
    refine (ENow 4 1 1 17 1 0 1 2 g gw gh m wr hM).mono ?_
    rintro e wa ⟨rfl, hba⟩
    replace hM := hM.below hba
    replace hI : InAt wa w2.heap.size pc ep := (hba.block _ (by exact lt_of_heap hI)).trans hI
    replace hX := (hba.block _ (by exact lt_of_heap hX)).trans hX
    replace hB := hB.trans (hba.mono hs)
    replace hs := Nat.le_trans hs hba.size
    clear k0 k1 k2 k3 k4 k5 k6 k7 k8 hba
    obtain ⟨k0, k1, k2, k3, k4, k5, k6, k7, k8⟩ := env_cells hX
    obtain ⟨d, m', pc', ep', hnx', HC⟩ := PinStep_all 4 1 1 17 1 0 1 2 g gw gh w2.heap.size m pc ep wa hM hI np 2 rfl (by omega) (by rw [hG.out.n]; omega) hst hG.out.kind
    have hlast := hnx'.last
    have HLA := Lib.hid hlast
    clear hlast
    go_wp2_with fail
    refine HC.out.mono ?_
    rintro e w9 ⟨rfl, hM9, hI9, hK⟩
    have hX9 := hK.heap hX hnx
    have hB9 := hB.trans (hK.below hbl hs)
    have hs9 := Nat.le_trans hs hK.size
    clear hK k0 k1 k2 k3 k4 k5 k6 k7 k8 hX hB hs hM hI HC
    obtain ⟨k0, k1, k2, k3, k4, k5, k6, k7, k8⟩ := env_cells hX9
    obtain ⟨hst', hlw, hcase⟩ := HLA.out
    have HNow : Hid (∀ W, MemAt W g gw gh m' → Calls Try.prog 66 #[.agg #[.int .i64 4, .int .i64 1, .int .i64 1, .int .i64 17, .int .i64 1, .int .i64 0, .int .i64 1, .pointer (some ⟨g, 0, none⟩), .int .i64 2]] W fun e W' => e = .returned (.int .i64 (m.steps + 1)) ∧ Below W.heap.size W W') := by
      intro W h
      have := ENow 4 1 1 17 1 0 1 2 g gw gh m' W h
      rw [hst'] at this; exact this
    clear HLA
    rcases hcase with ⟨q1, q2⟩ | ⟨rfl, q1, q2⟩ | ⟨rfl, q1, q2⟩
    · skip
      have HLast : Hid (∀ W, MemAt W g gw gh m' → Calls Try.prog 55 #[.pointer (some ⟨g, 0, none⟩)] W fun e W' => e = .returned (.agg #[.int .i64 0, .int .i64 2, .bool false]) ∧ Below W.heap.size W W') := by
        intro W h
        have := Last_any g gw gh m' W h
        rw [q1, q2, hlw] at this; exact this
      have hwr : IntKind.i64.wrap (m.steps + 1) = m.steps + 1 := by rw [IntWalk.i64_left]; exact IntWalk.wrap64_in _ ⟨by omega, by omega⟩
      clear q1 q2 hlw hst'
      go_wp2_with fail
      refine (HLast.out w9 hM9).mono ?_
      rintro e wb ⟨rfl, hbb⟩
      replace hM9 := hM9.below hbb
      replace hI9 : InAt wb w2.heap.size pc' ep' := (hbb.block _ (by exact lt_of_heap hI9)).trans hI9
      replace hX9 := (hbb.block _ (by exact lt_of_heap hX9)).trans hX9
      replace hB9 := hB9.trans (hbb.mono hs9)
      replace hs9 := Nat.le_trans hs9 hbb.size
      clear k0 k1 k2 k3 k4 k5 k6 k7 k8 hbb HLast
      obtain ⟨k0, k1, k2, k3, k4, k5, k6, k7, k8⟩ := env_cells hX9
      go_wp2
      have hT9 := heap_alloc_new wb (.cells #[.int .i64 0, .int .i64 2, .bool false] 79)
      replace hM9 := hM9.below (below_new wb (.cells #[.int .i64 0, .int .i64 2, .bool false] 79))
      replace hI9 : InAt (wb.alloc (.cells #[.int .i64 0, .int .i64 2, .bool false] 79)) w2.heap.size pc' ep' := ((below_new wb _).block _ (by exact lt_of_heap hI9)).trans hI9
      replace hX9 := ((below_new wb (.cells #[.int .i64 0, .int .i64 2, .bool false] 79)).block _ (by exact lt_of_heap hX9)).trans hX9
      replace hB9 := hB9.trans ((below_new wb (.cells #[.int .i64 0, .int .i64 2, .bool false] 79)).mono hs9)
      replace hs9 : w.heap.size ≤ (wb.alloc (.cells #[.int .i64 0, .int .i64 2, .bool false] 79)).heap.size := by simp; omega
      clear k0 k1 k2 k3 k4 k5 k6 k7 k8
      generalize wb.alloc (.cells #[.int .i64 0, .int .i64 2, .bool false] 79) = W2 at hT9 hM9 hI9 hX9 hB9 hs9 ⊢
      replace hB9 := hB9.drew
      replace hM9 := hM9.drew
      replace hX9 : W2.drew.heap[w1.heap.size]? = _ := hX9
      replace hT9 : W2.drew.heap[wb.heap.size]? = _ := hT9
      replace hI9 : InAt W2.drew w2.heap.size pc' ep' := hI9
      replace hs9 : w.heap.size ≤ W2.drew.heap.size := hs9
      refine wp_region_noPanic ?_
      refine wp_region_held_drew (S := fun w' => w'.cell? ⟨w1.heap.size, 0, none⟩ = some (.int .i64 4) ∧ w'.cell? ⟨w1.heap.size, 1, none⟩ = some (.int .i64 1) ∧ w'.cell? ⟨w1.heap.size, 2, none⟩ = some (.int .i64 1) ∧ w'.cell? ⟨w1.heap.size, 3, none⟩ = some (.int .i64 17) ∧ w'.cell? ⟨w1.heap.size, 4, none⟩ = some (.int .i64 1) ∧ w'.cell? ⟨w1.heap.size, 5, none⟩ = some (.int .i64 0) ∧ w'.cell? ⟨w1.heap.size, 6, none⟩ = some (.int .i64 1) ∧ w'.cell? ⟨w1.heap.size, 7, none⟩ = some (.pointer (some ⟨g, 0, none⟩)) ∧ w'.cell? ⟨w1.heap.size, 8, none⟩ = some (.int .i64 2) ∧ w'.cell? ⟨wb.heap.size, 0, none⟩ = some (.int .i64 0) ∧ w'.cell? ⟨wb.heap.size, 1, none⟩ = some (.int .i64 2) ∧ w'.cell? ⟨wb.heap.size, 2, none⟩ = some (.bool false)) (by kernel_rfl) (by exact ⟨cell_of_row _ w1.heap.size 0 _ _ _ hX9, cell_of_row _ w1.heap.size 1 _ _ _ hX9, cell_of_row _ w1.heap.size 2 _ _ _ hX9, cell_of_row _ w1.heap.size 3 _ _ _ hX9, cell_of_row _ w1.heap.size 4 _ _ _ hX9, cell_of_row _ w1.heap.size 5 _ _ _ hX9, cell_of_row _ w1.heap.size 6 _ _ _ hX9, cell_of_row _ w1.heap.size 7 _ _ _ hX9, cell_of_row _ w1.heap.size 8 _ _ _ hX9, cell_of_row _ wb.heap.size 0 _ _ _ hT9, cell_of_row _ wb.heap.size 1 _ _ _ hT9, cell_of_row _ wb.heap.size 2 _ _ _ hT9⟩) (fun hH => ?_)
      refine take_at (i := 0) (v := ?_) rfl (by kernel_rfl) (by kernel_rfl) (by kernel_rfl) (fun _ _ _ h => h) (Or.inl ⟨by rfl, ?_⟩) hH ?_
      rotate_left
      · (intro w hSw; (try dsimp only at hSw); go_simp; (try with_reducible rfl))
      (try simp only [Act.put, List.setIfInBounds_toArray, List.set_cons_zero, List.set_cons_succ])
      refine take_at (i := 2) (v := ?_) rfl (by kernel_rfl) (by kernel_rfl) (by kernel_rfl) (fun _ _ _ h => h) (Or.inl ⟨by rfl, ?_⟩) hH ?_
      rotate_left
      · (intro w hSw; (try dsimp only at hSw); go_simp; (try with_reducible rfl))
      (try simp only [Act.put, List.setIfInBounds_toArray, List.set_cons_zero, List.set_cons_succ])
      refine take_at (i := 3) (v := ?_) rfl (by kernel_rfl) (by kernel_rfl) (by kernel_rfl) (fun _ _ _ h => h) (Or.inl ⟨by rfl, ?_⟩) hH ?_
      rotate_left
      · (intro w hSw; (try dsimp only at hSw); go_simp; (try with_reducible rfl))
      (try simp only [Act.put, List.setIfInBounds_toArray, List.set_cons_zero, List.set_cons_succ])
      refine wpAnyH_ready (rs := [1]) (by kernel_rfl) (by simp) ?_
      refine cons_at rfl (fun K hK => ?_) AllReadyH.nil
      go_simp
      go_at_call 66
      refine (HNow.out _ hM9).mono ?_
      rintro e w8 ⟨rfl, hb8⟩
      replace hM9 := hM9.below hb8
      replace hX9 := (hb8.block _ (by exact lt_of_heap hX9)).trans hX9
      replace hT9 := (hb8.block _ (by exact lt_of_heap hT9)).trans hT9
      replace hI9 : InAt w8 w2.heap.size pc' ep' := (hb8.block _ (by exact lt_of_heap hI9)).trans hI9
      replace hB9 := hB9.trans (hb8.mono hs9)
      replace hs9 := Nat.le_trans hs9 hb8.size
      clear hb8
      (try go_wp2_with fail)
      clear hH
      refine hK.out _ _ (by exact ⟨cell_of_row _ w1.heap.size 0 _ _ _ hX9, cell_of_row _ w1.heap.size 1 _ _ _ hX9, cell_of_row _ w1.heap.size 2 _ _ _ hX9, cell_of_row _ w1.heap.size 3 _ _ _ hX9, cell_of_row _ w1.heap.size 4 _ _ _ hX9, cell_of_row _ w1.heap.size 5 _ _ _ hX9, cell_of_row _ w1.heap.size 6 _ _ _ hX9, cell_of_row _ w1.heap.size 7 _ _ _ hX9, cell_of_row _ w1.heap.size 8 _ _ _ hX9, cell_of_row _ wb.heap.size 0 _ _ _ hT9, cell_of_row _ wb.heap.size 1 _ _ _ hT9, cell_of_row _ wb.heap.size 2 _ _ _ hT9⟩) (fun hH => ?_)
      clear hK K
      (try simp only [Act.put, List.setIfInBounds_toArray, List.set_cons_zero, List.set_cons_succ])
      refine take_at (i := 4) (v := ?_) rfl (by kernel_rfl) (by kernel_rfl) (by kernel_rfl) (fun _ _ _ h => h) (Or.inl ⟨by rfl, ?_⟩) hH ?_
      rotate_left
      · (intro w hSw; (try dsimp only at hSw); go_simp; (try with_reducible rfl))
      (try simp only [Act.put, List.setIfInBounds_toArray, List.set_cons_zero, List.set_cons_succ])
      refine take_at (i := 5) (v := ?_) rfl (by kernel_rfl) (by kernel_rfl) (by kernel_rfl) (fun _ _ _ h => h) (Or.inl ⟨by rfl, ?_⟩) hH ?_
      rotate_left
      · (intro w hSw; (try dsimp only at hSw); go_simp; (try with_reducible rfl))
      (try simp only [Act.put, List.setIfInBounds_toArray, List.set_cons_zero, List.set_cons_succ])
      refine take_at (i := 6) (v := ?_) rfl (by kernel_rfl) (by kernel_rfl) (by kernel_rfl) (fun _ _ _ h => h) (Or.inl ⟨by rfl, ?_⟩) hH ?_
      rotate_left
      · (intro w hSw; (try dsimp only at hSw); go_simp; (try with_reducible rfl))
      (try simp only [Act.put, List.setIfInBounds_toArray, List.set_cons_zero, List.set_cons_succ])
      refine take_at (i := 7) (v := ?_) rfl (by kernel_rfl) (by kernel_rfl) (by kernel_rfl) (fun _ _ _ h => h) (Or.inl ⟨by rfl, ?_⟩) hH ?_
      rotate_left
      · (intro w hSw; (try dsimp only at hSw); go_simp; (try with_reducible rfl))
      (try simp only [Act.put, List.setIfInBounds_toArray, List.set_cons_zero, List.set_cons_succ])
      refine take_at (i := 8) (v := ?_) rfl (by kernel_rfl) (by kernel_rfl) (by kernel_rfl) (fun _ _ _ h => h) (Or.inl ⟨by rfl, ?_⟩) hH ?_
      rotate_left
      · (intro w hSw; (try dsimp only at hSw); go_simp; (try with_reducible rfl))
      (try simp only [Act.put, List.setIfInBounds_toArray, List.set_cons_zero, List.set_cons_succ])
      refine take_at (i := 9) (v := ?_) rfl (by kernel_rfl) (by kernel_rfl) (by kernel_rfl) (fun _ _ _ h => h) (Or.inl ⟨by rfl, ?_⟩) hH ?_
      rotate_left
      · (intro w hSw; (try dsimp only at hSw); go_simp; (try with_reducible rfl))
      (try simp only [Act.put, List.setIfInBounds_toArray, List.set_cons_zero, List.set_cons_succ])
      refine take_at (i := 10) (v := ?_) rfl (by kernel_rfl) (by kernel_rfl) (by kernel_rfl) (fun _ _ _ h => h) (Or.inl ⟨by rfl, ?_⟩) hH ?_
      rotate_left
      · (intro w hSw; (try dsimp only at hSw); go_simp; (try with_reducible rfl))
      (try simp only [Act.put, List.setIfInBounds_toArray, List.set_cons_zero, List.set_cons_succ])
      refine take_at (i := 11) (v := ?_) rfl (by kernel_rfl) (by kernel_rfl) (by kernel_rfl) (fun _ _ _ h => h) (Or.inl ⟨by rfl, ?_⟩) hH ?_
      rotate_left
      · (intro w hSw; (try dsimp only at hSw); go_simp; (try with_reducible rfl))
      (try simp only [Act.put, List.setIfInBounds_toArray, List.set_cons_zero, List.set_cons_succ])
      refine take_at (i := 12) (v := ?_) rfl (by kernel_rfl) (by kernel_rfl) (by kernel_rfl) (fun _ _ _ h => h) (Or.inl ⟨by rfl, ?_⟩) hH ?_
      rotate_left
      · (intro w hSw; (try dsimp only at hSw); go_simp; (try with_reducible rfl))
      (try simp only [Act.put, List.setIfInBounds_toArray, List.set_cons_zero, List.set_cons_succ])
      refine wpAnyH_ready (rs := [13]) (by kernel_rfl) (by simp) ?_
      refine cons_at rfl (fun K hK => ?_) AllReadyH.nil
      go_simp
      go_at_call 62
      refine (LEpoch_any _).mono ?_
      rintro e w7 ⟨rfl, hw⟩
      obtain rfl := hw.symm
      clear hw
      (try go_wp2_with fail)
      clear hH
      refine hK.out _ _ (by exact ⟨cell_of_row _ w1.heap.size 0 _ _ _ hX9, cell_of_row _ w1.heap.size 1 _ _ _ hX9, cell_of_row _ w1.heap.size 2 _ _ _ hX9, cell_of_row _ w1.heap.size 3 _ _ _ hX9, cell_of_row _ w1.heap.size 4 _ _ _ hX9, cell_of_row _ w1.heap.size 5 _ _ _ hX9, cell_of_row _ w1.heap.size 6 _ _ _ hX9, cell_of_row _ w1.heap.size 7 _ _ _ hX9, cell_of_row _ w1.heap.size 8 _ _ _ hX9, cell_of_row _ wb.heap.size 0 _ _ _ hT9, cell_of_row _ wb.heap.size 1 _ _ _ hT9, cell_of_row _ wb.heap.size 2 _ _ _ hT9⟩) (fun hH => ?_)
      clear hK K
      (try simp only [Act.put, List.setIfInBounds_toArray, List.set_cons_zero, List.set_cons_succ])
      refine take_at (i := 14) (v := ?_) rfl (by kernel_rfl) (by kernel_rfl) (by kernel_rfl) (fun _ _ _ h => h) (Or.inl ⟨by rfl, ?_⟩) hH ?_
      rotate_left
      · (intro w hSw; (try dsimp only at hSw); go_simp; (try with_reducible rfl))
      (try simp only [Act.put, List.setIfInBounds_toArray, List.set_cons_zero, List.set_cons_succ])
      refine take_at (i := 15) (v := ?_) rfl (by kernel_rfl) (by kernel_rfl) (by kernel_rfl) (fun _ _ _ h => h) (Or.inl ⟨by rfl, ?_⟩) hH ?_
      rotate_left
      · (intro w hSw; (try dsimp only at hSw); go_simp; (try with_reducible rfl))
      (try simp only [Act.put, List.setIfInBounds_toArray, List.set_cons_zero, List.set_cons_succ])
      refine take_at (i := 16) (v := undef) rfl (by kernel_rfl) (by kernel_rfl) (by kernel_rfl) (fun _ _ _ h => h) (Or.inr ⟨by rfl, rfl⟩) hH ?_
      (try simp only [Act.put, List.setIfInBounds_toArray, List.set_cons_zero, List.set_cons_succ])
      refine take_at (i := 17) (v := undef) rfl (by kernel_rfl) (by kernel_rfl) (by kernel_rfl) (fun _ _ _ h => h) (Or.inr ⟨by rfl, rfl⟩) hH ?_
      (try simp only [Act.put, List.setIfInBounds_toArray, List.set_cons_zero, List.set_cons_succ])
      refine take_at (i := 18) (v := undef) rfl (by kernel_rfl) (by kernel_rfl) (by kernel_rfl) (fun _ _ _ h => h) (Or.inr ⟨by rfl, rfl⟩) hH ?_
      (try simp only [Act.put, List.setIfInBounds_toArray, List.set_cons_zero, List.set_cons_succ])
      refine take_at (i := 19) (v := undef) rfl (by kernel_rfl) (by kernel_rfl) (by kernel_rfl) (fun _ _ _ h => h) (Or.inr ⟨by rfl, rfl⟩) hH ?_
      (try simp only [Act.put, List.setIfInBounds_toArray, List.set_cons_zero, List.set_cons_succ])
      refine take_at (i := 20) (v := ?_) rfl (by kernel_rfl) (by kernel_rfl) (by kernel_rfl) (fun _ _ _ h => h) (Or.inl ⟨by rfl, ?_⟩) hH ?_
      rotate_left
      · (intro w hSw; (try dsimp only at hSw); go_simp; (try with_reducible rfl))
      (try simp only [Act.put, List.setIfInBounds_toArray, List.set_cons_zero, List.set_cons_succ])
      refine take_at (i := 21) (v := ?_) rfl (by kernel_rfl) (by kernel_rfl) (by kernel_rfl) (fun _ _ _ h => h) (Or.inl ⟨by rfl, ?_⟩) hH ?_
      rotate_left
      · (intro w hSw; (try dsimp only at hSw); go_simp; (try with_reducible rfl))
      (try simp only [Act.put, List.setIfInBounds_toArray, List.set_cons_zero, List.set_cons_succ])
      refine take_at (i := 22) (v := ?_) rfl (by kernel_rfl) (by kernel_rfl) (by kernel_rfl) (fun _ _ _ h => h) (Or.inl ⟨by rfl, ?_⟩) hH ?_
      rotate_left
      · (intro w hSw; (try dsimp only at hSw); go_simp; (try with_reducible rfl))
      (try simp only [Act.put, List.setIfInBounds_toArray, List.set_cons_zero, List.set_cons_succ])
      refine take_at (i := 23) (v := ?_) rfl (by kernel_rfl) (by kernel_rfl) (by kernel_rfl) (fun _ _ _ h => h) (Or.inl ⟨by rfl, ?_⟩) hH ?_
      rotate_left
      · (intro w hSw; (try dsimp only at hSw); go_simp; (try with_reducible rfl))
      (try simp only [Act.put, List.setIfInBounds_toArray, List.set_cons_zero, List.set_cons_succ])
      refine take_at (i := 24) (v := ?_) rfl (by kernel_rfl) (by kernel_rfl) (by kernel_rfl) (fun _ _ _ h => h) (Or.inl ⟨by rfl, ?_⟩) hH ?_
      rotate_left
      · (intro w hSw; (try dsimp only at hSw); go_simp; (try with_reducible rfl))
      (try simp only [Act.put, List.setIfInBounds_toArray, List.set_cons_zero, List.set_cons_succ])
      refine take_at (i := 25) (v := ?_) rfl (by kernel_rfl) (by kernel_rfl) (by kernel_rfl) (fun _ _ _ h => h) (Or.inl ⟨by rfl, ?_⟩) hH ?_
      rotate_left
      · (intro w hSw; (try dsimp only at hSw); go_simp; (try with_reducible rfl))
      (try simp only [Act.put, List.setIfInBounds_toArray, List.set_cons_zero, List.set_cons_succ])
      refine take_at (i := 26) (v := undef) rfl (by kernel_rfl) (by kernel_rfl) (by kernel_rfl) (fun _ _ _ h => h) (Or.inr ⟨by rfl, rfl⟩) hH ?_
      (try simp only [Act.put, List.setIfInBounds_toArray, List.set_cons_zero, List.set_cons_succ])
      refine take_at (i := 27) (v := undef) rfl (by kernel_rfl) (by kernel_rfl) (by kernel_rfl) (fun _ _ _ h => h) (Or.inr ⟨by rfl, rfl⟩) hH ?_
      (try simp only [Act.put, List.setIfInBounds_toArray, List.set_cons_zero, List.set_cons_succ])
      refine take_at (i := 28) (v := undef) rfl (by kernel_rfl) (by kernel_rfl) (by kernel_rfl) (fun _ _ _ h => h) (Or.inr ⟨by rfl, rfl⟩) hH ?_
      (try simp only [Act.put, List.setIfInBounds_toArray, List.set_cons_zero, List.set_cons_succ])
      refine take_at (i := 29) (v := undef) rfl (by kernel_rfl) (by kernel_rfl) (by kernel_rfl) (fun _ _ _ h => h) (Or.inr ⟨by rfl, rfl⟩) hH ?_
      (try simp only [Act.put, List.setIfInBounds_toArray, List.set_cons_zero, List.set_cons_succ])
      refine take_at (i := 30) (v := ?_) rfl (by kernel_rfl) (by kernel_rfl) (by kernel_rfl) (fun _ _ _ h => h) (Or.inl ⟨by rfl, ?_⟩) hH ?_
      rotate_left
      · (intro w hSw; (try dsimp only at hSw); go_simp; (try with_reducible rfl))
      (try simp only [Act.put, List.setIfInBounds_toArray, List.set_cons_zero, List.set_cons_succ])
      refine take_at (i := 31) (v := ?_) rfl (by kernel_rfl) (by kernel_rfl) (by kernel_rfl) (fun _ _ _ h => h) (Or.inl ⟨by rfl, ?_⟩) hH ?_
      rotate_left
      · (intro w hSw; (try dsimp only at hSw); go_simp; (try with_reducible rfl))
      (try simp only [Act.put, List.setIfInBounds_toArray, List.set_cons_zero, List.set_cons_succ])
      refine wpAnyH_done (by kernel_rfl) ?_ _
      refine NoPanic.normal ?_
      clear hH hT9
      cases d
      · skip
        obtain ⟨HG0', hst1⟩ := hG.out.next hnx'
        have HG1 := Lib.hid HG0'
        have HST := Lib.hid hst1
        clear hnx' hst1 HG0'
        rcases Nat.lt_or_ge k n with z1 | z1
        · rcases Nat.lt_or_ge k 100 with z2 | z2
          · obtain ⟨b, off, rfl, hb, hc⟩ := HL.out.2 (by omega)
            have HC' := Lib.hid hc
            clear hc
            cases hlk : l k
            · skip
              have hcl : w8.cell? ⟨b, off + k, none⟩ = some (.bool false) := by rw [← hlk]; exact (hB9.cell hb).trans (HC'.out k z1)
              clear hlk
              go_wp2
              go_roundw
              case rel => exact ⟨k + 1, m', pc', ep', by go_num, HG1, hM9, hI9, hX9, hB9, hs9⟩
              case measure => simp [intOf]; omega
            · skip
              have hcl : w8.cell? ⟨b, off + k, none⟩ = some (.bool true) := by rw [← hlk]; exact (hB9.cell hb).trans (HC'.out k z1)
              have k7 := cell_of_row _ w1.heap.size 7 _ _ _ hX9
              have hmn : 0 < m'.n := by have := HG1.out.n; omega
              have hms : m'.steps < 4611686018427387904 := by have := HST.out; omega
              clear hlk
              go_wp2
              (first | (go_region_with (first
                | (go_at_call 62; refine (LEpoch_any _).mono ?_; rintro e w6 ⟨rfl, hw⟩; obtain rfl := hw.symm; clear hw)
                | (go_at_call 47; refine (Add_yes g gw gh m' 0 1 _ _ hM9.drew hmn hms rfl).mono ?_; rintro e w5 ⟨rfl, hM8, hK8⟩))) | fail)
              all_goals
                have hI8 := hK8.heap (b := w2.heap.size) (W := w8.drew) hI9 np.1 np.2.1 np.2.2
                have hX8 := hK8.heap (b := w1.heap.size) (W := w8.drew) hX9 (by simp at hnx; omega) (by simp at hnx; omega) (by simp at hnx; omega)
                have hB8 := hB9.drew.trans (hK8.below b0 b1 b2 hs9)
                have hs8 := Nat.le_trans hs9 hK8.size
                go_wp2
                go_roundw
                case rel => exact ⟨k + 1, _, pc', ep', by go_num, HG1.out.goes z2 HST.out, hM8, hI8, hX8, hB8, hs8⟩
                case measure => simp [intOf]; omega
          · skip
            go_wp2
            go_roundw
            case rel => exact ⟨k + 1, m', pc', ep', by go_num, HG1, hM9, hI9, hX9, hB9, hs9⟩
            case measure => simp [intOf]; omega
        · skip
          go_wp2
          go_roundw
          case rel => exact ⟨k + 1, m', pc', ep', by go_num, HG1, hM9, hI9, hX9, hB9, hs9⟩
          case measure => simp [intOf]; omega
      · clear hnx'
        go_wp2
        go_ret
        exact ⟨rfl, hB9⟩
    · skip
      have HLast : Hid (∀ W, MemAt W g gw gh m' → Calls Try.prog 55 #[.pointer (some ⟨g, 0, none⟩)] W fun e W' => e = .returned (.agg #[.int .i64 8, .int .i64 2, .bool true]) ∧ Below W.heap.size W W') := by
        intro W h
        have := Last_any g gw gh m' W h
        rw [q1, q2, hlw] at this; exact this
      have hwr : IntKind.i64.wrap (m.steps + 1) = m.steps + 1 := by rw [IntWalk.i64_left]; exact IntWalk.wrap64_in _ ⟨by omega, by omega⟩
      clear q1 q2 hlw hst'
      go_wp2_with fail
      refine (HLast.out w9 hM9).mono ?_
      rintro e wb ⟨rfl, hbb⟩
      replace hM9 := hM9.below hbb
      replace hI9 : InAt wb w2.heap.size pc' ep' := (hbb.block _ (by exact lt_of_heap hI9)).trans hI9
      replace hX9 := (hbb.block _ (by exact lt_of_heap hX9)).trans hX9
      replace hB9 := hB9.trans (hbb.mono hs9)
      replace hs9 := Nat.le_trans hs9 hbb.size
      clear k0 k1 k2 k3 k4 k5 k6 k7 k8 hbb HLast
      obtain ⟨k0, k1, k2, k3, k4, k5, k6, k7, k8⟩ := env_cells hX9
      go_wp2
      have hT9 := heap_alloc_new wb (.cells #[.int .i64 8, .int .i64 2, .bool true] 79)
      replace hM9 := hM9.below (below_new wb (.cells #[.int .i64 8, .int .i64 2, .bool true] 79))
      replace hI9 : InAt (wb.alloc (.cells #[.int .i64 8, .int .i64 2, .bool true] 79)) w2.heap.size pc' ep' := ((below_new wb _).block _ (by exact lt_of_heap hI9)).trans hI9
      replace hX9 := ((below_new wb (.cells #[.int .i64 8, .int .i64 2, .bool true] 79)).block _ (by exact lt_of_heap hX9)).trans hX9
      replace hB9 := hB9.trans ((below_new wb (.cells #[.int .i64 8, .int .i64 2, .bool true] 79)).mono hs9)
      replace hs9 : w.heap.size ≤ (wb.alloc (.cells #[.int .i64 8, .int .i64 2, .bool true] 79)).heap.size := by simp; omega
      clear k0 k1 k2 k3 k4 k5 k6 k7 k8
      generalize wb.alloc (.cells #[.int .i64 8, .int .i64 2, .bool true] 79) = W2 at hT9 hM9 hI9 hX9 hB9 hs9 ⊢
      replace hB9 := hB9.drew
      replace hM9 := hM9.drew
      replace hX9 : W2.drew.heap[w1.heap.size]? = _ := hX9
      replace hT9 : W2.drew.heap[wb.heap.size]? = _ := hT9
      replace hI9 : InAt W2.drew w2.heap.size pc' ep' := hI9
      replace hs9 : w.heap.size ≤ W2.drew.heap.size := hs9
      refine wp_region_noPanic ?_
      refine wp_region_held_drew (S := fun w' => w'.cell? ⟨w1.heap.size, 0, none⟩ = some (.int .i64 4) ∧ w'.cell? ⟨w1.heap.size, 1, none⟩ = some (.int .i64 1) ∧ w'.cell? ⟨w1.heap.size, 2, none⟩ = some (.int .i64 1) ∧ w'.cell? ⟨w1.heap.size, 3, none⟩ = some (.int .i64 17) ∧ w'.cell? ⟨w1.heap.size, 4, none⟩ = some (.int .i64 1) ∧ w'.cell? ⟨w1.heap.size, 5, none⟩ = some (.int .i64 0) ∧ w'.cell? ⟨w1.heap.size, 6, none⟩ = some (.int .i64 1) ∧ w'.cell? ⟨w1.heap.size, 7, none⟩ = some (.pointer (some ⟨g, 0, none⟩)) ∧ w'.cell? ⟨w1.heap.size, 8, none⟩ = some (.int .i64 2) ∧ w'.cell? ⟨wb.heap.size, 0, none⟩ = some (.int .i64 8) ∧ w'.cell? ⟨wb.heap.size, 1, none⟩ = some (.int .i64 2) ∧ w'.cell? ⟨wb.heap.size, 2, none⟩ = some (.bool true)) (by kernel_rfl) (by exact ⟨cell_of_row _ w1.heap.size 0 _ _ _ hX9, cell_of_row _ w1.heap.size 1 _ _ _ hX9, cell_of_row _ w1.heap.size 2 _ _ _ hX9, cell_of_row _ w1.heap.size 3 _ _ _ hX9, cell_of_row _ w1.heap.size 4 _ _ _ hX9, cell_of_row _ w1.heap.size 5 _ _ _ hX9, cell_of_row _ w1.heap.size 6 _ _ _ hX9, cell_of_row _ w1.heap.size 7 _ _ _ hX9, cell_of_row _ w1.heap.size 8 _ _ _ hX9, cell_of_row _ wb.heap.size 0 _ _ _ hT9, cell_of_row _ wb.heap.size 1 _ _ _ hT9, cell_of_row _ wb.heap.size 2 _ _ _ hT9⟩) (fun hH => ?_)
      refine take_at (i := 0) (v := ?_) rfl (by kernel_rfl) (by kernel_rfl) (by kernel_rfl) (fun _ _ _ h => h) (Or.inl ⟨by rfl, ?_⟩) hH ?_
      rotate_left
      · (intro w hSw; (try dsimp only at hSw); go_simp; (try with_reducible rfl))
      (try simp only [Act.put, List.setIfInBounds_toArray, List.set_cons_zero, List.set_cons_succ])
      refine take_at (i := 2) (v := ?_) rfl (by kernel_rfl) (by kernel_rfl) (by kernel_rfl) (fun _ _ _ h => h) (Or.inl ⟨by rfl, ?_⟩) hH ?_
      rotate_left
      · (intro w hSw; (try dsimp only at hSw); go_simp; (try with_reducible rfl))
      (try simp only [Act.put, List.setIfInBounds_toArray, List.set_cons_zero, List.set_cons_succ])
      refine take_at (i := 3) (v := ?_) rfl (by kernel_rfl) (by kernel_rfl) (by kernel_rfl) (fun _ _ _ h => h) (Or.inl ⟨by rfl, ?_⟩) hH ?_
      rotate_left
      · (intro w hSw; (try dsimp only at hSw); go_simp; (try with_reducible rfl))
      (try simp only [Act.put, List.setIfInBounds_toArray, List.set_cons_zero, List.set_cons_succ])
      refine wpAnyH_ready (rs := [1]) (by kernel_rfl) (by simp) ?_
      refine cons_at rfl (fun K hK => ?_) AllReadyH.nil
      go_simp
      go_at_call 66
      refine (HNow.out _ hM9).mono ?_
      rintro e w8 ⟨rfl, hb8⟩
      replace hM9 := hM9.below hb8
      replace hX9 := (hb8.block _ (by exact lt_of_heap hX9)).trans hX9
      replace hT9 := (hb8.block _ (by exact lt_of_heap hT9)).trans hT9
      replace hI9 : InAt w8 w2.heap.size pc' ep' := (hb8.block _ (by exact lt_of_heap hI9)).trans hI9
      replace hB9 := hB9.trans (hb8.mono hs9)
      replace hs9 := Nat.le_trans hs9 hb8.size
      clear hb8
      (try go_wp2_with fail)
      clear hH
      refine hK.out _ _ (by exact ⟨cell_of_row _ w1.heap.size 0 _ _ _ hX9, cell_of_row _ w1.heap.size 1 _ _ _ hX9, cell_of_row _ w1.heap.size 2 _ _ _ hX9, cell_of_row _ w1.heap.size 3 _ _ _ hX9, cell_of_row _ w1.heap.size 4 _ _ _ hX9, cell_of_row _ w1.heap.size 5 _ _ _ hX9, cell_of_row _ w1.heap.size 6 _ _ _ hX9, cell_of_row _ w1.heap.size 7 _ _ _ hX9, cell_of_row _ w1.heap.size 8 _ _ _ hX9, cell_of_row _ wb.heap.size 0 _ _ _ hT9, cell_of_row _ wb.heap.size 1 _ _ _ hT9, cell_of_row _ wb.heap.size 2 _ _ _ hT9⟩) (fun hH => ?_)
      clear hK K
      (try simp only [Act.put, List.setIfInBounds_toArray, List.set_cons_zero, List.set_cons_succ])
      refine take_at (i := 4) (v := ?_) rfl (by kernel_rfl) (by kernel_rfl) (by kernel_rfl) (fun _ _ _ h => h) (Or.inl ⟨by rfl, ?_⟩) hH ?_
      rotate_left
      · (intro w hSw; (try dsimp only at hSw); go_simp; (try with_reducible rfl))
      (try simp only [Act.put, List.setIfInBounds_toArray, List.set_cons_zero, List.set_cons_succ])
      refine take_at (i := 5) (v := ?_) rfl (by kernel_rfl) (by kernel_rfl) (by kernel_rfl) (fun _ _ _ h => h) (Or.inl ⟨by rfl, ?_⟩) hH ?_
      rotate_left
      · (intro w hSw; (try dsimp only at hSw); go_simp; (try with_reducible rfl))
      (try simp only [Act.put, List.setIfInBounds_toArray, List.set_cons_zero, List.set_cons_succ])
      refine take_at (i := 6) (v := ?_) rfl (by kernel_rfl) (by kernel_rfl) (by kernel_rfl) (fun _ _ _ h => h) (Or.inl ⟨by rfl, ?_⟩) hH ?_
      rotate_left
      · (intro w hSw; (try dsimp only at hSw); go_simp; (try with_reducible rfl))
      (try simp only [Act.put, List.setIfInBounds_toArray, List.set_cons_zero, List.set_cons_succ])
      refine take_at (i := 7) (v := ?_) rfl (by kernel_rfl) (by kernel_rfl) (by kernel_rfl) (fun _ _ _ h => h) (Or.inl ⟨by rfl, ?_⟩) hH ?_
      rotate_left
      · (intro w hSw; (try dsimp only at hSw); go_simp; (try with_reducible rfl))
      (try simp only [Act.put, List.setIfInBounds_toArray, List.set_cons_zero, List.set_cons_succ])
      refine take_at (i := 8) (v := ?_) rfl (by kernel_rfl) (by kernel_rfl) (by kernel_rfl) (fun _ _ _ h => h) (Or.inl ⟨by rfl, ?_⟩) hH ?_
      rotate_left
      · (intro w hSw; (try dsimp only at hSw); go_simp; (try with_reducible rfl))
      (try simp only [Act.put, List.setIfInBounds_toArray, List.set_cons_zero, List.set_cons_succ])
      refine take_at (i := 9) (v := ?_) rfl (by kernel_rfl) (by kernel_rfl) (by kernel_rfl) (fun _ _ _ h => h) (Or.inl ⟨by rfl, ?_⟩) hH ?_
      rotate_left
      · (intro w hSw; (try dsimp only at hSw); go_simp; (try with_reducible rfl))
      (try simp only [Act.put, List.setIfInBounds_toArray, List.set_cons_zero, List.set_cons_succ])
      refine take_at (i := 10) (v := ?_) rfl (by kernel_rfl) (by kernel_rfl) (by kernel_rfl) (fun _ _ _ h => h) (Or.inl ⟨by rfl, ?_⟩) hH ?_
      rotate_left
      · (intro w hSw; (try dsimp only at hSw); go_simp; (try with_reducible rfl))
      (try simp only [Act.put, List.setIfInBounds_toArray, List.set_cons_zero, List.set_cons_succ])
      refine take_at (i := 11) (v := ?_) rfl (by kernel_rfl) (by kernel_rfl) (by kernel_rfl) (fun _ _ _ h => h) (Or.inl ⟨by rfl, ?_⟩) hH ?_
      rotate_left
      · (intro w hSw; (try dsimp only at hSw); go_simp; (try with_reducible rfl))
      (try simp only [Act.put, List.setIfInBounds_toArray, List.set_cons_zero, List.set_cons_succ])
      refine take_at (i := 12) (v := ?_) rfl (by kernel_rfl) (by kernel_rfl) (by kernel_rfl) (fun _ _ _ h => h) (Or.inl ⟨by rfl, ?_⟩) hH ?_
      rotate_left
      · (intro w hSw; (try dsimp only at hSw); go_simp; (try with_reducible rfl))
      (try simp only [Act.put, List.setIfInBounds_toArray, List.set_cons_zero, List.set_cons_succ])
      refine wpAnyH_ready (rs := [13]) (by kernel_rfl) (by simp) ?_
      refine cons_at rfl (fun K hK => ?_) AllReadyH.nil
      go_simp
      go_at_call 62
      refine (LEpoch_any _).mono ?_
      rintro e w7 ⟨rfl, hw⟩
      obtain rfl := hw.symm
      clear hw
      (try go_wp2_with fail)
      clear hH
      refine hK.out _ _ (by exact ⟨cell_of_row _ w1.heap.size 0 _ _ _ hX9, cell_of_row _ w1.heap.size 1 _ _ _ hX9, cell_of_row _ w1.heap.size 2 _ _ _ hX9, cell_of_row _ w1.heap.size 3 _ _ _ hX9, cell_of_row _ w1.heap.size 4 _ _ _ hX9, cell_of_row _ w1.heap.size 5 _ _ _ hX9, cell_of_row _ w1.heap.size 6 _ _ _ hX9, cell_of_row _ w1.heap.size 7 _ _ _ hX9, cell_of_row _ w1.heap.size 8 _ _ _ hX9, cell_of_row _ wb.heap.size 0 _ _ _ hT9, cell_of_row _ wb.heap.size 1 _ _ _ hT9, cell_of_row _ wb.heap.size 2 _ _ _ hT9⟩) (fun hH => ?_)
      clear hK K
      (try simp only [Act.put, List.setIfInBounds_toArray, List.set_cons_zero, List.set_cons_succ])
      refine take_at (i := 14) (v := ?_) rfl (by kernel_rfl) (by kernel_rfl) (by kernel_rfl) (fun _ _ _ h => h) (Or.inl ⟨by rfl, ?_⟩) hH ?_
      rotate_left
      · (intro w hSw; (try dsimp only at hSw); go_simp; (try with_reducible rfl))
      (try simp only [Act.put, List.setIfInBounds_toArray, List.set_cons_zero, List.set_cons_succ])
      refine take_at (i := 15) (v := ?_) rfl (by kernel_rfl) (by kernel_rfl) (by kernel_rfl) (fun _ _ _ h => h) (Or.inl ⟨by rfl, ?_⟩) hH ?_
      rotate_left
      · (intro w hSw; (try dsimp only at hSw); go_simp; (try with_reducible rfl))
      (try simp only [Act.put, List.setIfInBounds_toArray, List.set_cons_zero, List.set_cons_succ])
      refine take_at (i := 16) (v := ?_) rfl (by kernel_rfl) (by kernel_rfl) (by kernel_rfl) (fun _ _ _ h => h) (Or.inl ⟨by rfl, ?_⟩) hH ?_
      rotate_left
      · (intro w hSw; (try dsimp only at hSw); go_simp; (try with_reducible rfl))
      (try simp only [Act.put, List.setIfInBounds_toArray, List.set_cons_zero, List.set_cons_succ])
      refine take_at (i := 17) (v := ?_) rfl (by kernel_rfl) (by kernel_rfl) (by kernel_rfl) (fun _ _ _ h => h) (Or.inl ⟨by rfl, ?_⟩) hH ?_
      rotate_left
      · (intro w hSw; (try dsimp only at hSw); go_simp; (try with_reducible rfl))
      (try simp only [Act.put, List.setIfInBounds_toArray, List.set_cons_zero, List.set_cons_succ])
      refine wpAnyH_ready (rs := [18]) (by kernel_rfl) (by simp) ?_
      refine cons_at rfl (fun K hK => ?_) AllReadyH.nil
      go_simp
      go_at_call 61
      refine (LPin_any 2 _ (by omega) (by omega)).mono ?_
      rintro e w7 ⟨rfl, hw⟩
      obtain rfl := hw.symm
      clear hw
      (try go_wp2_with fail)
      clear hH
      refine hK.out _ _ (by exact ⟨cell_of_row _ w1.heap.size 0 _ _ _ hX9, cell_of_row _ w1.heap.size 1 _ _ _ hX9, cell_of_row _ w1.heap.size 2 _ _ _ hX9, cell_of_row _ w1.heap.size 3 _ _ _ hX9, cell_of_row _ w1.heap.size 4 _ _ _ hX9, cell_of_row _ w1.heap.size 5 _ _ _ hX9, cell_of_row _ w1.heap.size 6 _ _ _ hX9, cell_of_row _ w1.heap.size 7 _ _ _ hX9, cell_of_row _ w1.heap.size 8 _ _ _ hX9, cell_of_row _ wb.heap.size 0 _ _ _ hT9, cell_of_row _ wb.heap.size 1 _ _ _ hT9, cell_of_row _ wb.heap.size 2 _ _ _ hT9⟩) (fun hH => ?_)
      clear hK K
      (try simp only [Act.put, List.setIfInBounds_toArray, List.set_cons_zero, List.set_cons_succ])
      refine take_at (i := 19) (v := ?_) rfl (by kernel_rfl) (by kernel_rfl) (by kernel_rfl) (fun _ _ _ h => h) (Or.inl ⟨by rfl, ?_⟩) hH ?_
      rotate_left
      · (intro w hSw; (try dsimp only at hSw); go_simp; (try with_reducible rfl))
      (try simp only [Act.put, List.setIfInBounds_toArray, List.set_cons_zero, List.set_cons_succ])
      refine take_at (i := 20) (v := ?_) rfl (by kernel_rfl) (by kernel_rfl) (by kernel_rfl) (fun _ _ _ h => h) (Or.inl ⟨by rfl, ?_⟩) hH ?_
      rotate_left
      · (intro w hSw; (try dsimp only at hSw); go_simp; (try with_reducible rfl))
      (try simp only [Act.put, List.setIfInBounds_toArray, List.set_cons_zero, List.set_cons_succ])
      refine take_at (i := 21) (v := ?_) rfl (by kernel_rfl) (by kernel_rfl) (by kernel_rfl) (fun _ _ _ h => h) (Or.inl ⟨by rfl, ?_⟩) hH ?_
      rotate_left
      · (intro w hSw; (try dsimp only at hSw); go_simp; (try with_reducible rfl))
      (try simp only [Act.put, List.setIfInBounds_toArray, List.set_cons_zero, List.set_cons_succ])
      refine take_at (i := 22) (v := ?_) rfl (by kernel_rfl) (by kernel_rfl) (by kernel_rfl) (fun _ _ _ h => h) (Or.inl ⟨by rfl, ?_⟩) hH ?_
      rotate_left
      · (intro w hSw; (try dsimp only at hSw); go_simp; (try with_reducible rfl))
      (try simp only [Act.put, List.setIfInBounds_toArray, List.set_cons_zero, List.set_cons_succ])
      refine take_at (i := 23) (v := ?_) rfl (by kernel_rfl) (by kernel_rfl) (by kernel_rfl) (fun _ _ _ h => h) (Or.inl ⟨by rfl, ?_⟩) hH ?_
      rotate_left
      · (intro w hSw; (try dsimp only at hSw); go_simp; (try with_reducible rfl))
      (try simp only [Act.put, List.setIfInBounds_toArray, List.set_cons_zero, List.set_cons_succ])
      refine take_at (i := 24) (v := ?_) rfl (by kernel_rfl) (by kernel_rfl) (by kernel_rfl) (fun _ _ _ h => h) (Or.inl ⟨by rfl, ?_⟩) hH ?_
      rotate_left
      · (intro w hSw; (try dsimp only at hSw); go_simp; (try with_reducible rfl))
      (try simp only [Act.put, List.setIfInBounds_toArray, List.set_cons_zero, List.set_cons_succ])
      refine take_at (i := 25) (v := ?_) rfl (by kernel_rfl) (by kernel_rfl) (by kernel_rfl) (fun _ _ _ h => h) (Or.inl ⟨by rfl, ?_⟩) hH ?_
      rotate_left
      · (intro w hSw; (try dsimp only at hSw); go_simp; (try with_reducible rfl))
      (try simp only [Act.put, List.setIfInBounds_toArray, List.set_cons_zero, List.set_cons_succ])
      refine take_at (i := 26) (v := ?_) rfl (by kernel_rfl) (by kernel_rfl) (by kernel_rfl) (fun _ _ _ h => h) (Or.inl ⟨by rfl, ?_⟩) hH ?_
      rotate_left
      · (intro w hSw; (try dsimp only at hSw); go_simp; (try with_reducible rfl))
      (try simp only [Act.put, List.setIfInBounds_toArray, List.set_cons_zero, List.set_cons_succ])
      refine take_at (i := 27) (v := ?_) rfl (by kernel_rfl) (by kernel_rfl) (by kernel_rfl) (fun _ _ _ h => h) (Or.inl ⟨by rfl, ?_⟩) hH ?_
      rotate_left
      · (intro w hSw; (try dsimp only at hSw); go_simp; (try with_reducible rfl))
      (try simp only [Act.put, List.setIfInBounds_toArray, List.set_cons_zero, List.set_cons_succ])
      refine wpAnyH_ready (rs := [28]) (by kernel_rfl) (by simp) ?_
      refine cons_at rfl (fun K hK => ?_) AllReadyH.nil
      go_simp
      go_at_call 61
      refine (LPin_any 2 _ (by omega) (by omega)).mono ?_
      rintro e w7 ⟨rfl, hw⟩
      obtain rfl := hw.symm
      clear hw
      (try go_wp2_with fail)
      clear hH
      refine hK.out _ _ (by exact ⟨cell_of_row _ w1.heap.size 0 _ _ _ hX9, cell_of_row _ w1.heap.size 1 _ _ _ hX9, cell_of_row _ w1.heap.size 2 _ _ _ hX9, cell_of_row _ w1.heap.size 3 _ _ _ hX9, cell_of_row _ w1.heap.size 4 _ _ _ hX9, cell_of_row _ w1.heap.size 5 _ _ _ hX9, cell_of_row _ w1.heap.size 6 _ _ _ hX9, cell_of_row _ w1.heap.size 7 _ _ _ hX9, cell_of_row _ w1.heap.size 8 _ _ _ hX9, cell_of_row _ wb.heap.size 0 _ _ _ hT9, cell_of_row _ wb.heap.size 1 _ _ _ hT9, cell_of_row _ wb.heap.size 2 _ _ _ hT9⟩) (fun hH => ?_)
      clear hK K
      (try simp only [Act.put, List.setIfInBounds_toArray, List.set_cons_zero, List.set_cons_succ])
      refine take_at (i := 29) (v := ?_) rfl (by kernel_rfl) (by kernel_rfl) (by kernel_rfl) (fun _ _ _ h => h) (Or.inl ⟨by rfl, ?_⟩) hH ?_
      rotate_left
      · (intro w hSw; (try dsimp only at hSw); go_simp; (try with_reducible rfl))
      (try simp only [Act.put, List.setIfInBounds_toArray, List.set_cons_zero, List.set_cons_succ])
      refine take_at (i := 30) (v := ?_) rfl (by kernel_rfl) (by kernel_rfl) (by kernel_rfl) (fun _ _ _ h => h) (Or.inl ⟨by rfl, ?_⟩) hH ?_
      rotate_left
      · (intro w hSw; (try dsimp only at hSw); go_simp; (try with_reducible rfl))
      (try simp only [Act.put, List.setIfInBounds_toArray, List.set_cons_zero, List.set_cons_succ])
      refine take_at (i := 31) (v := ?_) rfl (by kernel_rfl) (by kernel_rfl) (by kernel_rfl) (fun _ _ _ h => h) (Or.inl ⟨by rfl, ?_⟩) hH ?_
      rotate_left
      · (intro w hSw; (try dsimp only at hSw); go_simp; (try with_reducible rfl))
      (try simp only [Act.put, List.setIfInBounds_toArray, List.set_cons_zero, List.set_cons_succ])
      refine wpAnyH_done (by kernel_rfl) ?_ _
      refine NoPanic.normal ?_
      clear hH hT9
      obtain ⟨HG0', hst1⟩ := hG.out.next hnx'
      have HG1 := Lib.hid HG0'
      have HST := Lib.hid hst1
      clear hnx' hst1 HG0'
      rcases Nat.lt_or_ge k n with z1 | z1
      · rcases Nat.lt_or_ge k 100 with z2 | z2
        · obtain ⟨b, off, rfl, hb, hc⟩ := HL.out.2 (by omega)
          have HC' := Lib.hid hc
          clear hc
          cases hlk : l k
          · skip
            have hcl : w8.cell? ⟨b, off + k, none⟩ = some (.bool false) := by rw [← hlk]; exact (hB9.cell hb).trans (HC'.out k z1)
            clear hlk
            go_wp2
            go_roundw
            case rel => exact ⟨k + 1, m', pc', ep', by go_num, HG1, hM9, hI9, hX9, hB9, hs9⟩
            case measure => simp [intOf]; omega
          · skip
            have hcl : w8.cell? ⟨b, off + k, none⟩ = some (.bool true) := by rw [← hlk]; exact (hB9.cell hb).trans (HC'.out k z1)
            have k7 := cell_of_row _ w1.heap.size 7 _ _ _ hX9
            have hmn : 0 < m'.n := by have := HG1.out.n; omega
            have hms : m'.steps < 4611686018427387904 := by have := HST.out; omega
            clear hlk
            go_wp2
            (first | (go_region_with (first
              | (go_at_call 62; refine (LEpoch_any _).mono ?_; rintro e w6 ⟨rfl, hw⟩; obtain rfl := hw.symm; clear hw)
              | (go_at_call 47; refine (Add_yes g gw gh m' 0 1 _ _ hM9.drew hmn hms rfl).mono ?_; rintro e w5 ⟨rfl, hM8, hK8⟩))) | fail)
            all_goals
              have hI8 := hK8.heap (b := w2.heap.size) (W := w8.drew) hI9 np.1 np.2.1 np.2.2
              have hX8 := hK8.heap (b := w1.heap.size) (W := w8.drew) hX9 (by simp at hnx; omega) (by simp at hnx; omega) (by simp at hnx; omega)
              have hB8 := hB9.drew.trans (hK8.below b0 b1 b2 hs9)
              have hs8 := Nat.le_trans hs9 hK8.size
              go_wp2
              go_roundw
              case rel => exact ⟨k + 1, _, pc', ep', by go_num, HG1.out.goes z2 HST.out, hM8, hI8, hX8, hB8, hs8⟩
              case measure => simp [intOf]; omega
        · skip
          go_wp2
          go_roundw
          case rel => exact ⟨k + 1, m', pc', ep', by go_num, HG1, hM9, hI9, hX9, hB9, hs9⟩
          case measure => simp [intOf]; omega
      · skip
        go_wp2
        go_roundw
        case rel => exact ⟨k + 1, m', pc', ep', by go_num, HG1, hM9, hI9, hX9, hB9, hs9⟩
        case measure => simp [intOf]; omega
    · skip
      have HLast : Hid (∀ W, MemAt W g gw gh m' → Calls Try.prog 55 #[.pointer (some ⟨g, 0, none⟩)] W fun e W' => e = .returned (.agg #[.int .i64 8, .int .i64 2, .bool false]) ∧ Below W.heap.size W W') := by
        intro W h
        have := Last_any g gw gh m' W h
        rw [q1, q2, hlw] at this; exact this
      have hwr : IntKind.i64.wrap (m.steps + 1) = m.steps + 1 := by rw [IntWalk.i64_left]; exact IntWalk.wrap64_in _ ⟨by omega, by omega⟩
      clear q1 q2 hlw hst'
      go_wp2_with fail
      refine (HLast.out w9 hM9).mono ?_
      rintro e wb ⟨rfl, hbb⟩
      replace hM9 := hM9.below hbb
      replace hI9 : InAt wb w2.heap.size pc' ep' := (hbb.block _ (by exact lt_of_heap hI9)).trans hI9
      replace hX9 := (hbb.block _ (by exact lt_of_heap hX9)).trans hX9
      replace hB9 := hB9.trans (hbb.mono hs9)
      replace hs9 := Nat.le_trans hs9 hbb.size
      clear k0 k1 k2 k3 k4 k5 k6 k7 k8 hbb HLast
      obtain ⟨k0, k1, k2, k3, k4, k5, k6, k7, k8⟩ := env_cells hX9
      go_wp2
      have hT9 := heap_alloc_new wb (.cells #[.int .i64 8, .int .i64 2, .bool false] 79)
      replace hM9 := hM9.below (below_new wb (.cells #[.int .i64 8, .int .i64 2, .bool false] 79))
      replace hI9 : InAt (wb.alloc (.cells #[.int .i64 8, .int .i64 2, .bool false] 79)) w2.heap.size pc' ep' := ((below_new wb _).block _ (by exact lt_of_heap hI9)).trans hI9
      replace hX9 := ((below_new wb (.cells #[.int .i64 8, .int .i64 2, .bool false] 79)).block _ (by exact lt_of_heap hX9)).trans hX9
      replace hB9 := hB9.trans ((below_new wb (.cells #[.int .i64 8, .int .i64 2, .bool false] 79)).mono hs9)
      replace hs9 : w.heap.size ≤ (wb.alloc (.cells #[.int .i64 8, .int .i64 2, .bool false] 79)).heap.size := by simp; omega
      clear k0 k1 k2 k3 k4 k5 k6 k7 k8
      generalize wb.alloc (.cells #[.int .i64 8, .int .i64 2, .bool false] 79) = W2 at hT9 hM9 hI9 hX9 hB9 hs9 ⊢
      replace hB9 := hB9.drew
      replace hM9 := hM9.drew
      replace hX9 : W2.drew.heap[w1.heap.size]? = _ := hX9
      replace hT9 : W2.drew.heap[wb.heap.size]? = _ := hT9
      replace hI9 : InAt W2.drew w2.heap.size pc' ep' := hI9
      replace hs9 : w.heap.size ≤ W2.drew.heap.size := hs9
      refine wp_region_noPanic ?_
      refine wp_region_held_drew (S := fun w' => w'.cell? ⟨w1.heap.size, 0, none⟩ = some (.int .i64 4) ∧ w'.cell? ⟨w1.heap.size, 1, none⟩ = some (.int .i64 1) ∧ w'.cell? ⟨w1.heap.size, 2, none⟩ = some (.int .i64 1) ∧ w'.cell? ⟨w1.heap.size, 3, none⟩ = some (.int .i64 17) ∧ w'.cell? ⟨w1.heap.size, 4, none⟩ = some (.int .i64 1) ∧ w'.cell? ⟨w1.heap.size, 5, none⟩ = some (.int .i64 0) ∧ w'.cell? ⟨w1.heap.size, 6, none⟩ = some (.int .i64 1) ∧ w'.cell? ⟨w1.heap.size, 7, none⟩ = some (.pointer (some ⟨g, 0, none⟩)) ∧ w'.cell? ⟨w1.heap.size, 8, none⟩ = some (.int .i64 2) ∧ w'.cell? ⟨wb.heap.size, 0, none⟩ = some (.int .i64 8) ∧ w'.cell? ⟨wb.heap.size, 1, none⟩ = some (.int .i64 2) ∧ w'.cell? ⟨wb.heap.size, 2, none⟩ = some (.bool false)) (by kernel_rfl) (by exact ⟨cell_of_row _ w1.heap.size 0 _ _ _ hX9, cell_of_row _ w1.heap.size 1 _ _ _ hX9, cell_of_row _ w1.heap.size 2 _ _ _ hX9, cell_of_row _ w1.heap.size 3 _ _ _ hX9, cell_of_row _ w1.heap.size 4 _ _ _ hX9, cell_of_row _ w1.heap.size 5 _ _ _ hX9, cell_of_row _ w1.heap.size 6 _ _ _ hX9, cell_of_row _ w1.heap.size 7 _ _ _ hX9, cell_of_row _ w1.heap.size 8 _ _ _ hX9, cell_of_row _ wb.heap.size 0 _ _ _ hT9, cell_of_row _ wb.heap.size 1 _ _ _ hT9, cell_of_row _ wb.heap.size 2 _ _ _ hT9⟩) (fun hH => ?_)
      refine take_at (i := 0) (v := ?_) rfl (by kernel_rfl) (by kernel_rfl) (by kernel_rfl) (fun _ _ _ h => h) (Or.inl ⟨by rfl, ?_⟩) hH ?_
      rotate_left
      · (intro w hSw; (try dsimp only at hSw); go_simp; (try with_reducible rfl))
      (try simp only [Act.put, List.setIfInBounds_toArray, List.set_cons_zero, List.set_cons_succ])
      refine take_at (i := 2) (v := ?_) rfl (by kernel_rfl) (by kernel_rfl) (by kernel_rfl) (fun _ _ _ h => h) (Or.inl ⟨by rfl, ?_⟩) hH ?_
      rotate_left
      · (intro w hSw; (try dsimp only at hSw); go_simp; (try with_reducible rfl))
      (try simp only [Act.put, List.setIfInBounds_toArray, List.set_cons_zero, List.set_cons_succ])
      refine take_at (i := 3) (v := ?_) rfl (by kernel_rfl) (by kernel_rfl) (by kernel_rfl) (fun _ _ _ h => h) (Or.inl ⟨by rfl, ?_⟩) hH ?_
      rotate_left
      · (intro w hSw; (try dsimp only at hSw); go_simp; (try with_reducible rfl))
      (try simp only [Act.put, List.setIfInBounds_toArray, List.set_cons_zero, List.set_cons_succ])
      refine wpAnyH_ready (rs := [1]) (by kernel_rfl) (by simp) ?_
      refine cons_at rfl (fun K hK => ?_) AllReadyH.nil
      go_simp
      go_at_call 66
      refine (HNow.out _ hM9).mono ?_
      rintro e w8 ⟨rfl, hb8⟩
      replace hM9 := hM9.below hb8
      replace hX9 := (hb8.block _ (by exact lt_of_heap hX9)).trans hX9
      replace hT9 := (hb8.block _ (by exact lt_of_heap hT9)).trans hT9
      replace hI9 : InAt w8 w2.heap.size pc' ep' := (hb8.block _ (by exact lt_of_heap hI9)).trans hI9
      replace hB9 := hB9.trans (hb8.mono hs9)
      replace hs9 := Nat.le_trans hs9 hb8.size
      clear hb8
      (try go_wp2_with fail)
      clear hH
      refine hK.out _ _ (by exact ⟨cell_of_row _ w1.heap.size 0 _ _ _ hX9, cell_of_row _ w1.heap.size 1 _ _ _ hX9, cell_of_row _ w1.heap.size 2 _ _ _ hX9, cell_of_row _ w1.heap.size 3 _ _ _ hX9, cell_of_row _ w1.heap.size 4 _ _ _ hX9, cell_of_row _ w1.heap.size 5 _ _ _ hX9, cell_of_row _ w1.heap.size 6 _ _ _ hX9, cell_of_row _ w1.heap.size 7 _ _ _ hX9, cell_of_row _ w1.heap.size 8 _ _ _ hX9, cell_of_row _ wb.heap.size 0 _ _ _ hT9, cell_of_row _ wb.heap.size 1 _ _ _ hT9, cell_of_row _ wb.heap.size 2 _ _ _ hT9⟩) (fun hH => ?_)
      clear hK K
      (try simp only [Act.put, List.setIfInBounds_toArray, List.set_cons_zero, List.set_cons_succ])
      refine take_at (i := 4) (v := ?_) rfl (by kernel_rfl) (by kernel_rfl) (by kernel_rfl) (fun _ _ _ h => h) (Or.inl ⟨by rfl, ?_⟩) hH ?_
      rotate_left
      · (intro w hSw; (try dsimp only at hSw); go_simp; (try with_reducible rfl))
      (try simp only [Act.put, List.setIfInBounds_toArray, List.set_cons_zero, List.set_cons_succ])
      refine take_at (i := 5) (v := ?_) rfl (by kernel_rfl) (by kernel_rfl) (by kernel_rfl) (fun _ _ _ h => h) (Or.inl ⟨by rfl, ?_⟩) hH ?_
      rotate_left
      · (intro w hSw; (try dsimp only at hSw); go_simp; (try with_reducible rfl))
      (try simp only [Act.put, List.setIfInBounds_toArray, List.set_cons_zero, List.set_cons_succ])
      refine take_at (i := 6) (v := ?_) rfl (by kernel_rfl) (by kernel_rfl) (by kernel_rfl) (fun _ _ _ h => h) (Or.inl ⟨by rfl, ?_⟩) hH ?_
      rotate_left
      · (intro w hSw; (try dsimp only at hSw); go_simp; (try with_reducible rfl))
      (try simp only [Act.put, List.setIfInBounds_toArray, List.set_cons_zero, List.set_cons_succ])
      refine take_at (i := 7) (v := ?_) rfl (by kernel_rfl) (by kernel_rfl) (by kernel_rfl) (fun _ _ _ h => h) (Or.inl ⟨by rfl, ?_⟩) hH ?_
      rotate_left
      · (intro w hSw; (try dsimp only at hSw); go_simp; (try with_reducible rfl))
      (try simp only [Act.put, List.setIfInBounds_toArray, List.set_cons_zero, List.set_cons_succ])
      refine take_at (i := 8) (v := ?_) rfl (by kernel_rfl) (by kernel_rfl) (by kernel_rfl) (fun _ _ _ h => h) (Or.inl ⟨by rfl, ?_⟩) hH ?_
      rotate_left
      · (intro w hSw; (try dsimp only at hSw); go_simp; (try with_reducible rfl))
      (try simp only [Act.put, List.setIfInBounds_toArray, List.set_cons_zero, List.set_cons_succ])
      refine take_at (i := 9) (v := ?_) rfl (by kernel_rfl) (by kernel_rfl) (by kernel_rfl) (fun _ _ _ h => h) (Or.inl ⟨by rfl, ?_⟩) hH ?_
      rotate_left
      · (intro w hSw; (try dsimp only at hSw); go_simp; (try with_reducible rfl))
      (try simp only [Act.put, List.setIfInBounds_toArray, List.set_cons_zero, List.set_cons_succ])
      refine take_at (i := 10) (v := ?_) rfl (by kernel_rfl) (by kernel_rfl) (by kernel_rfl) (fun _ _ _ h => h) (Or.inl ⟨by rfl, ?_⟩) hH ?_
      rotate_left
      · (intro w hSw; (try dsimp only at hSw); go_simp; (try with_reducible rfl))
      (try simp only [Act.put, List.setIfInBounds_toArray, List.set_cons_zero, List.set_cons_succ])
      refine take_at (i := 11) (v := ?_) rfl (by kernel_rfl) (by kernel_rfl) (by kernel_rfl) (fun _ _ _ h => h) (Or.inl ⟨by rfl, ?_⟩) hH ?_
      rotate_left
      · (intro w hSw; (try dsimp only at hSw); go_simp; (try with_reducible rfl))
      (try simp only [Act.put, List.setIfInBounds_toArray, List.set_cons_zero, List.set_cons_succ])
      refine take_at (i := 12) (v := ?_) rfl (by kernel_rfl) (by kernel_rfl) (by kernel_rfl) (fun _ _ _ h => h) (Or.inl ⟨by rfl, ?_⟩) hH ?_
      rotate_left
      · (intro w hSw; (try dsimp only at hSw); go_simp; (try with_reducible rfl))
      (try simp only [Act.put, List.setIfInBounds_toArray, List.set_cons_zero, List.set_cons_succ])
      refine wpAnyH_ready (rs := [13]) (by kernel_rfl) (by simp) ?_
      refine cons_at rfl (fun K hK => ?_) AllReadyH.nil
      go_simp
      go_at_call 62
      refine (LEpoch_any _).mono ?_
      rintro e w7 ⟨rfl, hw⟩
      obtain rfl := hw.symm
      clear hw
      (try go_wp2_with fail)
      clear hH
      refine hK.out _ _ (by exact ⟨cell_of_row _ w1.heap.size 0 _ _ _ hX9, cell_of_row _ w1.heap.size 1 _ _ _ hX9, cell_of_row _ w1.heap.size 2 _ _ _ hX9, cell_of_row _ w1.heap.size 3 _ _ _ hX9, cell_of_row _ w1.heap.size 4 _ _ _ hX9, cell_of_row _ w1.heap.size 5 _ _ _ hX9, cell_of_row _ w1.heap.size 6 _ _ _ hX9, cell_of_row _ w1.heap.size 7 _ _ _ hX9, cell_of_row _ w1.heap.size 8 _ _ _ hX9, cell_of_row _ wb.heap.size 0 _ _ _ hT9, cell_of_row _ wb.heap.size 1 _ _ _ hT9, cell_of_row _ wb.heap.size 2 _ _ _ hT9⟩) (fun hH => ?_)
      clear hK K
      (try simp only [Act.put, List.setIfInBounds_toArray, List.set_cons_zero, List.set_cons_succ])
      refine take_at (i := 14) (v := ?_) rfl (by kernel_rfl) (by kernel_rfl) (by kernel_rfl) (fun _ _ _ h => h) (Or.inl ⟨by rfl, ?_⟩) hH ?_
      rotate_left
      · (intro w hSw; (try dsimp only at hSw); go_simp; (try with_reducible rfl))
      (try simp only [Act.put, List.setIfInBounds_toArray, List.set_cons_zero, List.set_cons_succ])
      refine take_at (i := 15) (v := ?_) rfl (by kernel_rfl) (by kernel_rfl) (by kernel_rfl) (fun _ _ _ h => h) (Or.inl ⟨by rfl, ?_⟩) hH ?_
      rotate_left
      · (intro w hSw; (try dsimp only at hSw); go_simp; (try with_reducible rfl))
      (try simp only [Act.put, List.setIfInBounds_toArray, List.set_cons_zero, List.set_cons_succ])
      refine take_at (i := 16) (v := ?_) rfl (by kernel_rfl) (by kernel_rfl) (by kernel_rfl) (fun _ _ _ h => h) (Or.inl ⟨by rfl, ?_⟩) hH ?_
      rotate_left
      · (intro w hSw; (try dsimp only at hSw); go_simp; (try with_reducible rfl))
      (try simp only [Act.put, List.setIfInBounds_toArray, List.set_cons_zero, List.set_cons_succ])
      refine take_at (i := 17) (v := ?_) rfl (by kernel_rfl) (by kernel_rfl) (by kernel_rfl) (fun _ _ _ h => h) (Or.inl ⟨by rfl, ?_⟩) hH ?_
      rotate_left
      · (intro w hSw; (try dsimp only at hSw); go_simp; (try with_reducible rfl))
      (try simp only [Act.put, List.setIfInBounds_toArray, List.set_cons_zero, List.set_cons_succ])
      refine wpAnyH_ready (rs := [18]) (by kernel_rfl) (by simp) ?_
      refine cons_at rfl (fun K hK => ?_) AllReadyH.nil
      go_simp
      go_at_call 61
      refine (LPin_any 2 _ (by omega) (by omega)).mono ?_
      rintro e w7 ⟨rfl, hw⟩
      obtain rfl := hw.symm
      clear hw
      (try go_wp2_with fail)
      clear hH
      refine hK.out _ _ (by exact ⟨cell_of_row _ w1.heap.size 0 _ _ _ hX9, cell_of_row _ w1.heap.size 1 _ _ _ hX9, cell_of_row _ w1.heap.size 2 _ _ _ hX9, cell_of_row _ w1.heap.size 3 _ _ _ hX9, cell_of_row _ w1.heap.size 4 _ _ _ hX9, cell_of_row _ w1.heap.size 5 _ _ _ hX9, cell_of_row _ w1.heap.size 6 _ _ _ hX9, cell_of_row _ w1.heap.size 7 _ _ _ hX9, cell_of_row _ w1.heap.size 8 _ _ _ hX9, cell_of_row _ wb.heap.size 0 _ _ _ hT9, cell_of_row _ wb.heap.size 1 _ _ _ hT9, cell_of_row _ wb.heap.size 2 _ _ _ hT9⟩) (fun hH => ?_)
      clear hK K
      (try simp only [Act.put, List.setIfInBounds_toArray, List.set_cons_zero, List.set_cons_succ])
      refine take_at (i := 19) (v := ?_) rfl (by kernel_rfl) (by kernel_rfl) (by kernel_rfl) (fun _ _ _ h => h) (Or.inl ⟨by rfl, ?_⟩) hH ?_
      rotate_left
      · (intro w hSw; (try dsimp only at hSw); go_simp; (try with_reducible rfl))
      (try simp only [Act.put, List.setIfInBounds_toArray, List.set_cons_zero, List.set_cons_succ])
      refine take_at (i := 20) (v := ?_) rfl (by kernel_rfl) (by kernel_rfl) (by kernel_rfl) (fun _ _ _ h => h) (Or.inl ⟨by rfl, ?_⟩) hH ?_
      rotate_left
      · (intro w hSw; (try dsimp only at hSw); go_simp; (try with_reducible rfl))
      (try simp only [Act.put, List.setIfInBounds_toArray, List.set_cons_zero, List.set_cons_succ])
      refine take_at (i := 21) (v := ?_) rfl (by kernel_rfl) (by kernel_rfl) (by kernel_rfl) (fun _ _ _ h => h) (Or.inl ⟨by rfl, ?_⟩) hH ?_
      rotate_left
      · (intro w hSw; (try dsimp only at hSw); go_simp; (try with_reducible rfl))
      (try simp only [Act.put, List.setIfInBounds_toArray, List.set_cons_zero, List.set_cons_succ])
      refine take_at (i := 22) (v := ?_) rfl (by kernel_rfl) (by kernel_rfl) (by kernel_rfl) (fun _ _ _ h => h) (Or.inl ⟨by rfl, ?_⟩) hH ?_
      rotate_left
      · (intro w hSw; (try dsimp only at hSw); go_simp; (try with_reducible rfl))
      (try simp only [Act.put, List.setIfInBounds_toArray, List.set_cons_zero, List.set_cons_succ])
      refine take_at (i := 23) (v := ?_) rfl (by kernel_rfl) (by kernel_rfl) (by kernel_rfl) (fun _ _ _ h => h) (Or.inl ⟨by rfl, ?_⟩) hH ?_
      rotate_left
      · (intro w hSw; (try dsimp only at hSw); go_simp; (try with_reducible rfl))
      (try simp only [Act.put, List.setIfInBounds_toArray, List.set_cons_zero, List.set_cons_succ])
      refine take_at (i := 24) (v := ?_) rfl (by kernel_rfl) (by kernel_rfl) (by kernel_rfl) (fun _ _ _ h => h) (Or.inl ⟨by rfl, ?_⟩) hH ?_
      rotate_left
      · (intro w hSw; (try dsimp only at hSw); go_simp; (try with_reducible rfl))
      (try simp only [Act.put, List.setIfInBounds_toArray, List.set_cons_zero, List.set_cons_succ])
      refine take_at (i := 25) (v := ?_) rfl (by kernel_rfl) (by kernel_rfl) (by kernel_rfl) (fun _ _ _ h => h) (Or.inl ⟨by rfl, ?_⟩) hH ?_
      rotate_left
      · (intro w hSw; (try dsimp only at hSw); go_simp; (try with_reducible rfl))
      (try simp only [Act.put, List.setIfInBounds_toArray, List.set_cons_zero, List.set_cons_succ])
      refine take_at (i := 26) (v := undef) rfl (by kernel_rfl) (by kernel_rfl) (by kernel_rfl) (fun _ _ _ h => h) (Or.inr ⟨by rfl, rfl⟩) hH ?_
      (try simp only [Act.put, List.setIfInBounds_toArray, List.set_cons_zero, List.set_cons_succ])
      refine take_at (i := 27) (v := undef) rfl (by kernel_rfl) (by kernel_rfl) (by kernel_rfl) (fun _ _ _ h => h) (Or.inr ⟨by rfl, rfl⟩) hH ?_
      (try simp only [Act.put, List.setIfInBounds_toArray, List.set_cons_zero, List.set_cons_succ])
      refine take_at (i := 28) (v := undef) rfl (by kernel_rfl) (by kernel_rfl) (by kernel_rfl) (fun _ _ _ h => h) (Or.inr ⟨by rfl, rfl⟩) hH ?_
      (try simp only [Act.put, List.setIfInBounds_toArray, List.set_cons_zero, List.set_cons_succ])
      refine take_at (i := 29) (v := undef) rfl (by kernel_rfl) (by kernel_rfl) (by kernel_rfl) (fun _ _ _ h => h) (Or.inr ⟨by rfl, rfl⟩) hH ?_
      (try simp only [Act.put, List.setIfInBounds_toArray, List.set_cons_zero, List.set_cons_succ])
      refine take_at (i := 30) (v := ?_) rfl (by kernel_rfl) (by kernel_rfl) (by kernel_rfl) (fun _ _ _ h => h) (Or.inl ⟨by rfl, ?_⟩) hH ?_
      rotate_left
      · (intro w hSw; (try dsimp only at hSw); go_simp; (try with_reducible rfl))
      (try simp only [Act.put, List.setIfInBounds_toArray, List.set_cons_zero, List.set_cons_succ])
      refine take_at (i := 31) (v := ?_) rfl (by kernel_rfl) (by kernel_rfl) (by kernel_rfl) (fun _ _ _ h => h) (Or.inl ⟨by rfl, ?_⟩) hH ?_
      rotate_left
      · (intro w hSw; (try dsimp only at hSw); go_simp; (try with_reducible rfl))
      (try simp only [Act.put, List.setIfInBounds_toArray, List.set_cons_zero, List.set_cons_succ])
      refine wpAnyH_done (by kernel_rfl) ?_ _
      refine NoPanic.normal ?_
      clear hH hT9
      obtain ⟨HG0', hst1⟩ := hG.out.next hnx'
      have HG1 := Lib.hid HG0'
      have HST := Lib.hid hst1
      clear hnx' hst1 HG0'
      rcases Nat.lt_or_ge k n with z1 | z1
      · rcases Nat.lt_or_ge k 100 with z2 | z2
        · obtain ⟨b, off, rfl, hb, hc⟩ := HL.out.2 (by omega)
          have HC' := Lib.hid hc
          clear hc
          cases hlk : l k
          · skip
            have hcl : w8.cell? ⟨b, off + k, none⟩ = some (.bool false) := by rw [← hlk]; exact (hB9.cell hb).trans (HC'.out k z1)
            clear hlk
            go_wp2
            go_roundw
            case rel => exact ⟨k + 1, m', pc', ep', by go_num, HG1, hM9, hI9, hX9, hB9, hs9⟩
            case measure => simp [intOf]; omega
          · skip
            have hcl : w8.cell? ⟨b, off + k, none⟩ = some (.bool true) := by rw [← hlk]; exact (hB9.cell hb).trans (HC'.out k z1)
            have k7 := cell_of_row _ w1.heap.size 7 _ _ _ hX9
            have hmn : 0 < m'.n := by have := HG1.out.n; omega
            have hms : m'.steps < 4611686018427387904 := by have := HST.out; omega
            clear hlk
            go_wp2
            (first | (go_region_with (first
              | (go_at_call 62; refine (LEpoch_any _).mono ?_; rintro e w6 ⟨rfl, hw⟩; obtain rfl := hw.symm; clear hw)
              | (go_at_call 47; refine (Add_yes g gw gh m' 0 1 _ _ hM9.drew hmn hms rfl).mono ?_; rintro e w5 ⟨rfl, hM8, hK8⟩))) | fail)
            all_goals
              have hI8 := hK8.heap (b := w2.heap.size) (W := w8.drew) hI9 np.1 np.2.1 np.2.2
              have hX8 := hK8.heap (b := w1.heap.size) (W := w8.drew) hX9 (by simp at hnx; omega) (by simp at hnx; omega) (by simp at hnx; omega)
              have hB8 := hB9.drew.trans (hK8.below b0 b1 b2 hs9)
              have hs8 := Nat.le_trans hs9 hK8.size
              go_wp2
              go_roundw
              case rel => exact ⟨k + 1, _, pc', ep', by go_num, HG1.out.goes z2 HST.out, hM8, hI8, hX8, hB8, hs8⟩
              case measure => simp [intOf]; omega
        · skip
          go_wp2
          go_roundw
          case rel => exact ⟨k + 1, m', pc', ep', by go_num, HG1, hM9, hI9, hX9, hB9, hs9⟩
          case measure => simp [intOf]; omega
      · skip
        go_wp2
        go_roundw
        case rel => exact ⟨k + 1, m', pc', ep', by go_num, HG1, hM9, hI9, hX9, hB9, hs9⟩
        case measure => simp [intOf]; omega
end Go.Proofs.Ytnpjfdiapoghnaa
