/- Layer 5's statement PinRaces: a thread's step, whatever it does next; what holds from step to step; the walk. -/
import Derived.Test.YtnpjfdiapoghnaaLaw5a
import Derived.Test.YtnpjfdiapoghnaaComes
import Derived.LoopTactic
namespace Go.Proofs.Ytnpjfdiapoghnaa
open Go Go.RowKit

/-- What a step comes to. -/
def Next (wk : Nat) (who : Int) (m : Ms) (pc ep : Int) (d : Bool) (m' : Ms) (pc' ep' : Int) : Prop :=
  (pc = 0 ∧ d = false ∧ m' = m.ld who 0 ∧ pc' = 1 ∧ ep' = m.w 0) ∨
  (pc = 1 ∧ d = false ∧ m' = m.st who (6 + wk) (IntKind.u64.wrap (ep + 1)) ∧ pc' = 2 ∧ ep' = ep) ∨
  (pc = 2 ∧ m.w 0 = ep ∧ d = true ∧ m' = m.ld who 0 ∧ pc' = 2 ∧ ep' = ep) ∨
  (pc = 2 ∧ m.w 0 ≠ ep ∧ d = false ∧ m' = m.ld who 0 ∧ pc' = 1 ∧ ep' = m.w 0)

theorem PinStep_all (th sl ch wo ge sp tr who : Int) (g gw gh p : Nat) (m : Ms) (pc ep : Int) (W : World) (hM : MemAt W g gw gh m) (hI : InAt W p pc ep) (np : p ≠ g ∧ p ≠ gw ∧ p ≠ gh) (wk : Nat) (hwk : who = (wk : Int)) (hw8 : wk ≤ 100) (h1 : 6 + wk < m.n) (hs : m.steps < 4611686018427387904) (hpc : pc = 0 ∨ pc = 1 ∨ pc = 2) :
    ∃ (d : Bool) (m' : Ms) (pc' ep' : Int), Next wk who m pc ep d m' pc' ep' ∧
      Hid (Calls Try.prog 60 #[.pointer (some ⟨p, 0, none⟩), .agg #[.int .i64 th, .int .i64 sl, .int .i64 ch, .int .i64 wo, .int .i64 ge, .int .i64 sp, .int .i64 tr, .pointer (some ⟨g, 0, none⟩), .int .i64 who]] W fun e W' => e = .returned (.bool d) ∧ MemAt W' g gw gh m' ∧ InAt W' p pc' ep' ∧ KeepL [p, g, gw, gh] W W') := by
  rcases hpc with rfl | rfl | rfl
  · exact ⟨false, _, _, _, .inl ⟨rfl, rfl, rfl, rfl, rfl⟩, PinStep0 th sl ch wo ge sp tr who g gw gh p m ep W hM hI np (by omega) hs⟩
  · exact ⟨false, _, _, _, .inr (.inl ⟨rfl, rfl, rfl, rfl, rfl⟩), PinStep1 th sl ch wo ge sp tr who g gw gh p m ep W hM _ hI rfl np wk hwk hw8 h1 hs⟩
  · by_cases he : m.w 0 = ep
    · exact ⟨true, _, _, _, .inr (.inr (.inl ⟨rfl, he, rfl, rfl, rfl, rfl⟩)), PinStep2_done th sl ch wo ge sp tr who g gw gh p m ep W hM hI he np (by omega) hs⟩
    · exact ⟨false, _, _, _, .inr (.inr (.inr ⟨rfl, he, rfl, rfl, rfl, rfl⟩)), PinStep2_again th sl ch wo ge sp tr who g gw gh p m ep W hM hI he np (by omega) hs⟩

/-- How many steps are left, if the epoch stays. -/
def rank (pc ep E : Int) : Nat := if pc = 2 then (if E = ep then 0 else 2) else if pc = 1 then (if E = ep then 1 else 3) else 2
theorem rank_le (pc ep E : Int) : rank pc ep E ≤ 3 := by unfold rank; (by_cases h1 : pc = 2) <;> (by_cases h2 : pc = 1) <;> (by_cases h3 : E = ep) <;> simp [h1, h2, h3]

/-- What holds ahead of the i-th round. -/
structure InGood (wk i : Nat) (m : Ms) (pc ep : Int) : Prop where
  n : m.n = 32
  steps : m.steps ≤ 4 + 2 * i
  kind : pc = 0 ∨ pc = 1 ∨ pc = 2
  pin : pc = 2 → m.w (6 + wk) = IntKind.u64.wrap (ep + 1)
  late : 100 ≤ i → i + rank pc ep (m.w 0) ≤ 103
theorem InGood.done {wk i : Nat} {who : Int} {m m' : Ms} {pc ep pc' ep' : Int} (h : InGood wk i m pc ep) (hn : Next wk who m pc ep true m' pc' ep') : m'.n = 32 ∧ m'.w (6 + wk) = IntKind.u64.wrap (m'.w 0 + 1) := by
  rcases hn with ⟨_, h1, _⟩ | ⟨_, h1, _⟩ | ⟨h0, h1, _, rfl, _, _⟩ | ⟨_, _, h1, _⟩
  · cases h1
  · cases h1
  · refine ⟨h.n, ?_⟩
    show m.w (6 + wk) = IntKind.u64.wrap (m.w 0 + 1)
    rw [h1]; exact h.pin h0
  · cases h1
theorem InGood.next {wk i : Nat} {who : Int} {m m' : Ms} {pc ep pc' ep' : Int} (h : InGood wk i m pc ep) (hn : Next wk who m pc ep false m' pc' ep') : InGood wk (i + 1) m' pc' ep' ∧ m'.steps ≤ 5 + 2 * i := by
  have hs := h.steps
  rcases hn with ⟨rfl, _, rfl, rfl, rfl⟩ | ⟨rfl, _, rfl, rfl, rfl⟩ | ⟨_, _, h1, _⟩ | ⟨rfl, he, _, rfl, rfl, rfl⟩
  · refine ⟨⟨h.n, by show m.steps + 1 ≤ _; omega, .inr (.inl rfl), fun e => by omega, fun hi => ?_⟩, by show m.steps + 1 ≤ _; omega⟩
    show i + 1 + rank 1 (m.w 0) (m.w 0) ≤ 103
    have h1 : rank 1 (m.w 0) (m.w 0) = 1 := by simp [rank]
    by_cases c : 100 ≤ i
    · have := h.late c
      have h2 : rank 0 ep (m.w 0) = 2 := by simp [rank]
      omega
    · omega
  · have e0 : (m.st who (6 + wk) (IntKind.u64.wrap (ep' + 1))).w 0 = m.w 0 := by
      show upd m.w (6 + wk) _ 0 = _
      unfold upd; rw [if_neg (by omega)]
    refine ⟨⟨h.n, by show m.steps + 1 ≤ _; omega, .inr (.inr rfl), fun _ => ?_, fun hi => ?_⟩, by show m.steps + 1 ≤ _; omega⟩
    · show upd m.w (6 + wk) _ (6 + wk) = _
      unfold upd; rw [if_pos rfl]
    · rw [e0]
      by_cases e : m.w 0 = ep'
      · have h1 : rank 2 ep' (m.w 0) = 0 := by simp [rank, e]
        have h2 : rank 1 ep' (m.w 0) = 1 := by simp [rank, e]
        by_cases c : 100 ≤ i
        · have := h.late c; omega
        · omega
      · have h1 : rank 2 ep' (m.w 0) = 2 := by simp [rank, e]
        have h2 : rank 1 ep' (m.w 0) = 3 := by simp [rank, e]
        by_cases c : 100 ≤ i
        · have := h.late c; omega
        · omega
  · cases h1
  · refine ⟨⟨h.n, by show m.steps + 1 ≤ _; omega, .inr (.inl rfl), fun e => by omega, fun hi => ?_⟩, by show m.steps + 1 ≤ _; omega⟩
    show i + 1 + rank 1 (m.w 0) (m.w 0) ≤ 103
    have h1 : rank 1 (m.w 0) (m.w 0) = 1 := by simp [rank]
    by_cases c : 100 ≤ i
    · have := h.late c
      have h2 : rank 2 ep (m.w 0) = 2 := by simp [rank, he]
      omega
    · omega
/-- The epoch goes on. -/
theorem InGood.goes {wk i : Nat} {m : Ms} {pc ep s : Int} (h : InGood wk (i + 1) m pc ep) (hi : i < 100) (hs : m.steps ≤ 5 + 2 * i) : InGood wk (i + 1) ((m.step 0).set 0 s) pc ep := by
  refine ⟨h.n, by show m.steps + 1 ≤ _; omega, h.kind, fun e => ?_, fun hi => ?_⟩
  · show upd m.w 0 s (6 + wk) = _
    unfold upd; rw [if_neg (by omega)]; exact h.pin e
  · have := rank_le pc ep (((m.step 0).set 0 s).w 0)
    omega

/-! ### PinRaces -/
set_option maxHeartbeats 4000000 in
set_option maxRecDepth 100000 in
theorem PinRaces_any (A : Option Addr) (n c : Nat) (l : Nat → Bool) (w : World) (hl : ComesB w A n l) :
    Calls Try.prog 18 #[.slice A n c] w fun e w' => e = .returned (.bool true) ∧ Below w.heap.size w w' := by
  have HL := Lib.hid hl
  have hn := hl.1
  clear hl
  go_enter Try.func18, Try.ntmps18
  go_wp2_with fail
  refine (arena5_any 0 _).mono ?_
  rintro e w1 ⟨g, gw, gh, rfl, hM, hb1, b0, b1, b2⟩
  go_wp2_with fail
  refine (awake5_any _).mono ?_
  rintro e w2 ⟨rfl, hb2⟩
  have hl := hM.lt
  have hlw := hM.ltw
  have hlh := hM.lth
  have hz1 := hb1.size
  have hz2 := hb2.size
  have hX0 : (w1.alloc (.cells #[.int .i64 4, .int .i64 1, .int .i64 1, .int .i64 17, .int .i64 1, .int .i64 0, .int .i64 1, .pointer (some ⟨g, 0, none⟩), .int .i64 0] 87)).heap[w1.heap.size]? = some (.cells #[.int .i64 4, .int .i64 1, .int .i64 1, .int .i64 17, .int .i64 1, .int .i64 0, .int .i64 1, .pointer (some ⟨g, 0, none⟩), .int .i64 0] 87 (0, 0)) := heap_alloc_new w1 _
  have hz3 : (w1.alloc (.cells #[.int .i64 4, .int .i64 1, .int .i64 1, .int .i64 17, .int .i64 1, .int .i64 0, .int .i64 1, .pointer (some ⟨g, 0, none⟩), .int .i64 0] 87)).heap.size = w1.heap.size + 1 := by simp
  rw [hz3] at hz2
  have np : w2.heap.size ≠ g ∧ w2.heap.size ≠ gw ∧ w2.heap.size ≠ gh := by omega
  have hnx : w1.heap.size ∉ [w2.heap.size, g, gw, gh] := by simp; omega
  have hbl : ∀ k ∈ [w2.heap.size, g, gw, gh], w.heap.size ≤ k := by simp; omega
  have hB2 : Below w.heap.size w (w2.alloc (.cells #[.int .i64 0, .int .u64 0] 91)) := ((hb1.alloc hz1 _).trans (hb2.mono (by omega))).alloc (by omega) _
  have hM2 := ((hM.below (below_new w1 (.cells #[.int .i64 4, .int .i64 1, .int .i64 1, .int .i64 17, .int .i64 1, .int .i64 0, .int .i64 1, .pointer (some ⟨g, 0, none⟩), .int .i64 0] 87))).below hb2).below (below_new w2 (.cells #[.int .i64 0, .int .u64 0] 91))
  have hX2 : (w2.alloc (.cells #[.int .i64 0, .int .u64 0] 91)).heap[w1.heap.size]? = some (.cells #[.int .i64 4, .int .i64 1, .int .i64 1, .int .i64 17, .int .i64 1, .int .i64 0, .int .i64 1, .pointer (some ⟨g, 0, none⟩), .int .i64 0] 87 (0, 0)) := by
    rw [Below.heap_alloc _ _ _ (by omega), hb2.block _ (by omega)]; exact hX0
  have hI2 : InAt (w2.alloc (.cells #[.int .i64 0, .int .u64 0] 91)) w2.heap.size 0 0 := heap_alloc_new w2 _
  have hG0 : Hid (InGood 0 0 (freshOne 4 1 17) 0 0) := ⟨by decide, by decide, .inl rfl, fun h => absurd h (by decide), fun h => absurd h (by omega)⟩
  have hs2 : w.heap.size ≤ (w2.alloc (.cells #[.int .i64 0, .int .u64 0] 91)).heap.size := by simp; omega
  clear hM hX0 hz3 hl hlw hlh
  go_wp2_with fail
  go_loopw [6] (fun i wr => ∃ (k : Nat) (m : Ms) (pc ep : Int), i = .int .i64 k ∧ Hid (InGood 0 k m pc ep) ∧ MemAt wr g gw gh m ∧ InAt wr w2.heap.size pc ep ∧ wr.heap[w1.heap.size]? = some (.cells #[.int .i64 4, .int .i64 1, .int .i64 1, .int .i64 17, .int .i64 1, .int .i64 0, .int .i64 1, .pointer (some ⟨g, 0, none⟩), .int .i64 0] 87 (0, 0)) ∧ Below w.heap.size w wr ∧ w.heap.size ≤ wr.heap.size) (fun i _ => 200 - (intOf i).toNat)
  case atStart => exact ⟨0, _, 0, 0, rfl, hG0, hM2, hI2, hX2, hB2, hs2⟩
  case round =>
    rename_i wr
    obtain ⟨k, m, pc, ep, rfl, hG, hM, hI, hX, hB, hs⟩ := hrel
    clear hG0 hM2 hI2 hX2 hB2 hs2
    have hk : k ≤ 103 := by
      have := hG.out.late
      omega
    have hst : m.steps < 4611686018427387904 := by have := hG.out.steps; omega
    obtain ⟨d, m', pc', ep', hnx', HC⟩ := PinStep_all 4 1 1 17 1 0 1 0 g gw gh w2.heap.size m pc ep wr hM hI np 0 rfl (by omega) (by rw [hG.out.n]; omega) hst hG.out.kind
    have k0 := cell_of_row _ w1.heap.size 0 _ _ _ hX
    have k1 := cell_of_row _ w1.heap.size 1 _ _ _ hX
    have k2 := cell_of_row _ w1.heap.size 2 _ _ _ hX
    have k3 := cell_of_row _ w1.heap.size 3 _ _ _ hX
    have k4 := cell_of_row _ w1.heap.size 4 _ _ _ hX
    have k5 := cell_of_row _ w1.heap.size 5 _ _ _ hX
    have k6 := cell_of_row _ w1.heap.size 6 _ _ _ hX
    have k7 := cell_of_row _ w1.heap.size 7 _ _ _ hX
    have k8 := cell_of_row _ w1.heap.size 8 _ _ _ hX
    have hki : (k : Int) < 200 := by omega
    cases d
    · obtain ⟨HG1, hst1⟩ := hG.out.next hnx'
      have HST := Lib.hid hst1
      clear hnx' hst hst1 hM hI
      by_cases hlt : k < n ∧ k < 100
      · obtain ⟨q1, q2⟩ := hlt
        obtain ⟨b, off, rfl, hb, hc⟩ := HL.out.2 (by omega)
        have HC' := Lib.hid hc
        clear hc
        go_wp2_with fail
        refine HC.out.mono ?_
        rintro e w9 ⟨rfl, hM9, hI9, hK⟩
        have hX9 := hK.heap hX hnx
        have hB9 := hB.trans (hK.below hbl hs)
        have hs9 := Nat.le_trans hs hK.size
        have hcl : w9.cell? ⟨b, off + k, none⟩ = some (.bool (l k)) := (hB9.cell hb).trans (HC'.out k q1)
        clear hK k0 k1 k2 k3 k4 k5 k6 k7 k8
        cases hlk : l k
        · rw [hlk] at hcl
          clear hlk
          go_wp2
          go_roundw
          case rel => exact ⟨k + 1, m', pc', ep', by go_num, HG1, hM9, hI9, hX9, hB9, hs9⟩
          case measure => simp [intOf]; omega
        · rw [hlk] at hcl
          clear hlk
          have k7 := cell_of_row _ w1.heap.size 7 _ _ _ hX9
          have hmn : 0 < m'.n := by have := HG1.n; omega
          have hms : m'.steps < 4611686018427387904 := by have := HST.out; omega
          have HG1' := Lib.hid HG1
          clear HG1
          go_wp2
          (first | (go_region_with (first
            | (go_at_call 62; refine (LEpoch_any _).mono ?_; rintro e w8 ⟨rfl, hw⟩; obtain rfl := hw.symm; clear hw)
            | (go_at_call 47; refine (Add_yes g gw gh m' 0 1 _ _ hM9.drew hmn hms rfl).mono ?_; rintro e w8 ⟨rfl, hM8, hK8⟩))) | fail)
          all_goals
            have hI8 := hK8.heap (b := w2.heap.size) (W := w9.drew) hI9 np.1 np.2.1 np.2.2
            have hX8 := hK8.heap (b := w1.heap.size) (W := w9.drew) hX9 (by simp at hnx; omega) (by simp at hnx; omega) (by simp at hnx; omega)
            have hB8 := hB9.drew.trans (hK8.below b0 b1 b2 hs9)
            have hs8 := Nat.le_trans hs9 hK8.size
            go_wp2
            go_roundw
            case rel => exact ⟨k + 1, _, pc', ep', by go_num, HG1'.out.goes q2 HST.out, hM8, hI8, hX8, hB8, hs8⟩
            case measure => simp [intOf]; omega
      · go_wp2_with fail
        refine HC.out.mono ?_
        rintro e w9 ⟨rfl, hM9, hI9, hK⟩
        have hX9 := hK.heap hX hnx
        have hB9 := hB.trans (hK.below hbl hs)
        have hs9 := Nat.le_trans hs hK.size
        clear hK k0 k1 k2 k3 k4 k5 k6 k7 k8
        rcases Nat.lt_or_ge k n with q1 | q1
        · have q2 : 100 ≤ k := by omega
          clear hlt
          go_wp2
          go_roundw
          case rel => exact ⟨k + 1, m', pc', ep', by go_num, HG1, hM9, hI9, hX9, hB9, hs9⟩
          case measure => simp [intOf]; omega
        · clear hlt
          go_wp2
          go_roundw
          case rel => exact ⟨k + 1, m', pc', ep', by go_num, HG1, hM9, hI9, hX9, hB9, hs9⟩
          case measure => simp [intOf]; omega
    · obtain ⟨hn', hdone⟩ := hG.out.done hnx'
      clear hnx' hst hM hI
      have HD := Lib.hid hdone
      clear hdone
      go_wp2_with fail
      refine HC.out.mono ?_
      rintro e w9 ⟨rfl, hM9, hI9, hK⟩
      have hX9 := hK.heap hX hnx
      have hB9 := hB.trans (hK.below hbl hs)
      clear hK k0 k1 k2 k3 k4 k5 k6 k7 k8
      have k7 := cell_of_row _ w1.heap.size 7 _ _ _ hX9
      have HP6 : Hid (∀ q : Nat, Calls Try.prog 49 #[.pointer (some ⟨g, 0, none⟩), .int .i64 6] (w9.drewN q) fun e w' => e = .returned (.int .u64 (IntKind.u64.wrap (m'.w 0 + 1))) ∧ w' = w9.drewN q) := by
        intro q
        rw [← HD.out]
        exact Peek_yes g gw gh _ 6 _ (hM9.drewN q) (by omega)
      have HP0 : Hid (∀ q : Nat, Calls Try.prog 49 #[.pointer (some ⟨g, 0, none⟩), .int .i64 0] (w9.drewN q) fun e w' => e = .returned (.int .u64 (m'.w 0)) ∧ w' = w9.drewN q) :=
        fun q => Peek_yes g gw gh _ 0 _ (hM9.drewN q) (by omega)
      go_wp2
      go_quiet ((first | (go_at_call 61; exact Calls.quiet_of_same (LPin_any 0 _ (by omega) (by omega))) | (go_at_call 62; exact Calls.quiet_of_same (LEpoch_any _)) | (go_at_call_of 49 (6 : Int); exact Calls.quiet_of_same (HP6.out _)) | (go_at_call_of 49 (0 : Int); exact Calls.quiet_of_same (HP0.out _))))
      go_wp2
      go_ret
      exact ⟨rfl, below_drewN hB9 _⟩
end Go.Proofs.Ytnpjfdiapoghnaa
