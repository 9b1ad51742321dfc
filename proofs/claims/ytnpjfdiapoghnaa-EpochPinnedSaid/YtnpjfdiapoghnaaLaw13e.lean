/- Layer 13's statement EpochPinned. -/
import Derived.Test.YtnpjfdiapoghnaaLaw13p
import Derived.Test.YtnpjfdiapoghnaaLaw13o
namespace Go.Proofs.Ytnpjfdiapoghnaa
open Go Go.RowKit

/-- What holds ahead of the k-th try. -/
structure EPin (k : Nat) (m : Ms) : Prop where
  n : m.n = 35
  st : m.steps ≤ 7 + 16 * k
  w0 : m.w 0 = 0 ∨ m.w 0 = 1
  w7 : m.w 7 = 1
/-- The same, within a round. -/
structure EPin2 (k : Nat) (m : Ms) : Prop where
  n : m.n = 35
  st : m.steps ≤ 7 + 16 * k + 10
  w0 : m.w 0 = 0 ∨ m.w 0 = 1
  w7 : m.w 7 = 1
theorem EPin.adv {k : Nat} {m m' : Ms} {b : Bool} (h : EPin k m) (he : AEnd 4 m m' b) : EPin2 k m' := by
  refine ⟨he.n.trans h.n, by have := h.st; have := he.hi; omega, ?_, (he.w 7 (by omega)).trans h.w7⟩
  rcases he.res with ⟨_, hok, h0⟩ | ⟨_, _, h0⟩
  · rcases h.w0 with e | e
    · rw [e, wrap_u64_in _ (by omega) (by omega)] at h0
      exact .inr h0
    · exfalso
      have := hok 1 (by omega)
      unfold okPin at this
      rw [h.w7, e, wrap_u64_in _ (by omega) (by omega)] at this
      omega
  · rw [h0]; exact h.w0
theorem EPin2.next {k : Nat} {m : Ms} (h : EPin2 k m) : EPin (k + 1) m := ⟨h.n, by have := h.st; omega, h.w0, h.w7⟩
theorem EPin2.pinned {k : Nat} {m m' : Ms} (h : EPin2 k m) (hp : PLEnd 2 m m') : EPin (k + 1) m' := by
  refine ⟨hp.n.trans h.n, by have := h.st; have := hp.steps; omega, ?_, (hp.w 7 (by omega)).trans h.w7⟩
  rw [hp.w 0 (by omega)]; exact h.w0
theorem EPin2.out {k : Nat} {m : Ms} (h : EPin2 k m) : EPin (k + 1) (m.st 2 (6 + 2) 0) :=
  ⟨h.n, by have := h.st; show m.steps + 1 ≤ _; omega, by rw [show (m.st 2 (6 + 2) 0).w 0 = m.w 0 from upd_other m.w 8 0 0 (by omega)]; exact h.w0, (upd_other m.w 8 7 0 (by omega)).trans h.w7⟩

set_option maxHeartbeats 4000000 in
set_option maxRecDepth 100000 in
theorem EpochPinned_any (tr : Int) (A : Option Addr) (n c : Nat) (l : Nat → Bool) (w : World) (hl : ComesB w A n l) :
    Calls Try.prog 22 #[.int .i64 tr, .slice A n c] w fun e w' => e = .returned (.bool true) ∧ Below w.heap.size w w' := by
  have HL := Lib.hid hl
  have hn := hl.1
  clear hl
  obtain ⟨v0, ev, bv⟩ : ∃ x : Int, bits .and .i64 tr 31 = x ∧ 0 ≤ x ∧ x ≤ 31 := ⟨_, rfl, andw_bd 5 tr 31 .i64 (.inl rfl) (by decide) (by omega)⟩
  obtain ⟨bv0, bv1⟩ := bv
  go_enter Try.func22, Try.ntmps22
  go_wp2_with fail
  refine (Arena_any 4 1 20 _ (by omega) (by omega) (by omega)).mono ?_
  rintro e w1 ⟨g, gw, gh, rfl, hM, hb1, b0, b1, b2⟩
  go_wp2_with fail
  refine (awake13_any _).mono ?_
  rintro e w2 ⟨rfl, hb2⟩
  have hl := hM.lt
  have hlw := hM.ltw
  have hlh := hM.lth
  have np : w1.heap.size ≠ g ∧ w1.heap.size ≠ gw ∧ w1.heap.size ≠ gh := by omega
  clear hl hlw hlh
  have hz1 := hb1.size
  have hX : w2.heap[w1.heap.size]? = some (.cells #[.int .i64 4, .int .i64 1, .int .i64 1, .int .i64 20, .int .i64 100, .int .i64 600, .int .i64 3, .pointer (some ⟨g, 0, none⟩), .int .i64 0] 87 (0, 0)) := by
    rw [hb2.block _ (by simp)]; exact heap_alloc_new w1 _
  have hB : Below w.heap.size w w2 := (hb1.alloc hz1 _).trans (hb2.mono (by simp; omega))
  have hs : w.heap.size ≤ w2.heap.size := by have := hb2.size; simp at this; omega
  replace hM := (hM.below (below_new w1 (.cells #[.int .i64 4, .int .i64 1, .int .i64 1, .int .i64 20, .int .i64 100, .int .i64 600, .int .i64 3, .pointer (some ⟨g, 0, none⟩), .int .i64 0] 87))).below hb2
  clear hb1 hb2
  have k8 := cell_of_row _ w1.heap.size 8 _ _ _ hX
  have fx := frozen_of 8 hX
  have hX1 : (w2.setCell ⟨w1.heap.size, 8, none⟩ (.int .i64 1)).heap[w1.heap.size]? = some (.cells #[.int .i64 4, .int .i64 1, .int .i64 1, .int .i64 20, .int .i64 100, .int .i64 600, .int .i64 3, .pointer (some ⟨g, 0, none⟩), .int .i64 1] 87 (0, 0)) := heap_set_self 8 _ hX
  have hM1 := hM.far (p := ⟨w1.heap.size, 8, none⟩) (.int .i64 1) (Ne.symm np.1) (Ne.symm np.2.1) (Ne.symm np.2.2)
  have hB1 := hB.setCell (p := ⟨w1.heap.size, 8, none⟩) hz1 (.int .i64 1)
  have hs1 : w.heap.size ≤ (w2.setCell ⟨w1.heap.size, 8, none⟩ (.int .i64 1)).heap.size := by simp [World.setCell]; omega
  have hz3 : (w2.setCell ⟨w1.heap.size, 8, none⟩ (.int .i64 1)).heap.size = w2.heap.size := by simp [World.setCell]
  have hsz : w1.heap.size < w2.heap.size := lt_of_heap hX
  go_wp2_with fail
  clear hM hX hB hs k8 fx
  generalize w2.setCell ⟨w1.heap.size, 8, none⟩ (.int .i64 1) = W3 at hM1 hX1 hB1 hs1 hz3 ⊢
  have hI : InAt (W3.alloc (.cells #[.int .i64 0, .int .u64 0] 91)) w2.heap.size 0 0 := by rw [← hz3]; exact heap_alloc_new W3 _
  have hM := hM1.below (below_new W3 (.cells #[.int .i64 0, .int .u64 0] 91))
  have hX := ((below_new W3 (.cells #[.int .i64 0, .int .u64 0] 91)).block _ (by exact lt_of_heap hX1)).trans hX1
  have hB := hB1.alloc hs1 (.cells #[.int .i64 0, .int .u64 0] 91)
  have hs : w.heap.size ≤ (W3.alloc (.cells #[.int .i64 0, .int .u64 0] 91)).heap.size := by simp; omega
  have npP : w2.heap.size ≠ g ∧ w2.heap.size ≠ gw ∧ w2.heap.size ≠ gh := by have := hM1.lt; have := hM1.ltw; have := hM1.lth; omega
  have hnx : w1.heap.size ∉ [w2.heap.size, g, gw, gh] := by have := lt_of_heap hX1; simp; omega
  have hbl : ∀ k ∈ [w2.heap.size, g, gw, gh], w.heap.size ≤ k := by simp; omega
  clear hM1 hX1 hB1 hs1 hz3
  generalize w2.heap.size = P1 at hI npP hnx hbl ⊢
  have HNN : Hid (7 + 1 ≤ (freshOne 4 1 20).n) := by show 7 + 1 ≤ (freshOne 4 1 20).n; decide
  have HS0 : Hid ((freshOne 4 1 20).steps < 4611686018427386000) := by show (freshOne 4 1 20).steps < 4611686018427386000; decide
  have HF : Hid ((freshOne 4 1 20).n = 35 ∧ (freshOne 4 1 20).steps = 4 ∧ (freshOne 4 1 20).w 0 = 0) := ⟨rfl, rfl, fresh_w 4 1 20 _ (by omega) (by omega) (by omega)⟩
  generalize freshOne 4 1 20 = m0 at hM HNN HS0 HF
  have hP0 : Hid (PL 1 m0 0 m0 0 0) := ⟨rfl, by omega, fun _ _ => rfl, .inl ⟨rfl, rfl⟩⟩
  go_wp2_with fail
  go_loopw [8] (fun i wr => ∃ (k2 : Nat) (m2 : Ms) (pc ep : Int), i = .int .i64 k2 ∧ Hid (PL 1 m0 k2 m2 pc ep) ∧ MemAt wr g gw gh m2 ∧ InAt wr (P1) pc ep ∧ wr.heap[w1.heap.size]? = some (.cells #[.int .i64 4, .int .i64 1, .int .i64 1, .int .i64 20, .int .i64 100, .int .i64 600, .int .i64 3, .pointer (some ⟨g, 0, none⟩), .int .i64 1] 87 (0, 0)) ∧ Below w.heap.size w wr ∧ w.heap.size ≤ wr.heap.size) (fun i _ => 9 - (intOf i).toNat)
  case atStart => exact ⟨0, _, 0, 0, rfl, hP0, hM, hI, hX, hB, hs⟩
  case round =>
    clear hM hI hX hB hs hP0
    obtain ⟨k2, m2, pc, ep, rfl, hP, hM, hI, hX, hB, hs⟩ := hrel
    have hk2 : k2 ≤ 2 := hP.out.le
    have hki2 : (k2 : Int) < 9 := by omega
    have hst2 : m2.steps < 4611686018427387904 := by have := hP.out.steps; have := HS0.out; omega
    obtain ⟨d, m3, pc', ep', hnx', HC⟩ := PinStep_all 4 1 1 20 100 600 3 1 g gw gh (P1) m2 pc ep _ hM hI npP 1 rfl (by omega) (by rw [hP.out.n]; have := HNN.out; omega) hst2 hP.out.kind
    have hd := hP.out.next hnx'
    obtain ⟨k0, k1, k2', k3, k4, k5, k6, k7, k8⟩ := env_cells hX
    clear hnx' hst2
    rcases hd with ⟨rfl, HP'⟩ | ⟨rfl, HE⟩
    · go_wp2_with fail
      refine HC.out.mono ?_
      rintro e w9 ⟨rfl, hM9, hI9, hK9⟩
      have hX9 := hK9.heap hX hnx
      have hB9 := hB.trans (hK9.below hbl hs)
      have hs9 := Nat.le_trans hs hK9.size
      clear hK9 k0 k1 k2' k3 k4 k5 k6 k7 k8 HC hM hI hX hB hs
      go_wp2
      go_roundw
      case rel => exact ⟨k2 + 1, m3, pc', ep', by go_num, HP', hM9, hI9, hX9, hB9, hs9⟩
      case measure => simp [intOf]; omega
    · go_wp2_with fail
      refine HC.out.mono ?_
      rintro e w9 ⟨rfl, hM9, hI9, hK9⟩
      have hX9 := hK9.heap hX hnx
      have hB9 := hB.trans (hK9.below hbl hs)
      have hs9 := Nat.le_trans hs hK9.size
      clear hK9 k0 k1 k2' k3 k4 k5 k6 k7 k8 HC hM hI hX hB hs hI9
      have HG0 : Hid (EPin 0 m3) := by
        have h1 := HF.out
        have h2 := HE.out
        have h3 := h2.pin
        rw [h1.2.2] at h3
        exact ⟨h2.n.trans h1.1, by have := h2.steps; omega, .inl ((h2.w 0 (by omega)).trans h1.2.2), h3.trans (wrap_u64_in _ (by omega) (by omega))⟩
      have HW0 : Hid (m3.w 0 = 0 ∧ 0 < m3.n) := ⟨(HE.out.w 0 (by omega)).trans HF.out.2.2, by rw [HE.out.n, HF.out.1]; omega⟩
      clear HE HF hP
      have k7 := cell_of_row _ w1.heap.size 7 _ _ _ hX9
      have HP : Hid (∀ q : Nat, Calls Try.prog 49 #[.pointer (some ⟨g, 0, none⟩), .int .i64 0] (w9.drewN q) fun e w' => e = .returned (.int .u64 0) ∧ w' = w9.drewN q) :=
        fun q => Peek_val g gw gh m3 0 0 _ (hM9.drewN q) HW0.out.2 HW0.out.1
      go_wp2
      go_quiet ((first | (go_at_call 62; exact Calls.quiet_of_same (LEpoch_any _)) | (go_at_call 49; exact Calls.quiet_of_same (HP.out _))))
      clear HP HW0 k7
      go_wp2_with fail
      go_loopw [10, 11, 12] (fun i _ _ wr => ∃ (k : Nat) (m : Ms) (who : Int), i = .int .i64 k ∧ (k : Int) ≤ v0 ∧ Hid (EPin k m) ∧ MemAt wr g gw gh m ∧ wr.heap[w1.heap.size]? = some (.cells #[.int .i64 4, .int .i64 1, .int .i64 1, .int .i64 20, .int .i64 100, .int .i64 600, .int .i64 3, .pointer (some ⟨g, 0, none⟩), .int .i64 who] 87 (0, 0)) ∧ Below w.heap.size w wr ∧ w.heap.size ≤ wr.heap.size) (fun i _ _ _ => v0.toNat - (intOf i).toNat)
      case atStart => exact ⟨0, _, 1, rfl, by omega, HG0, hM9.drewN _, hX9, below_drewN hB9 _, hs9⟩
      case round =>
        rename_i wr
        clear HG0 hM9 hX9 hB9 hs9
        obtain ⟨k, m, who, rfl, hkv, hG, hM, hX, hB, hs⟩ := hrel
        have hk : k ≤ 31 := by omega
        have hst : m.steps < 4611686018427386000 := by have := hG.out.st; omega
        by_cases hlt : (k : Int) < v0
        · have k8 := cell_of_row _ w1.heap.size 8 _ _ _ hX
          have fx := frozen_of 8 hX
          have hX1 : (wr.setCell ⟨w1.heap.size, 8, none⟩ (.int .i64 (-1))).heap[w1.heap.size]? = some (.cells #[.int .i64 4, .int .i64 1, .int .i64 1, .int .i64 20, .int .i64 100, .int .i64 600, .int .i64 3, .pointer (some ⟨g, 0, none⟩), .int .i64 (-1)] 87 (0, 0)) := heap_set_self 8 _ hX
          have hM1 := hM.far (p := ⟨w1.heap.size, 8, none⟩) (.int .i64 (-1)) (Ne.symm np.1) (Ne.symm np.2.1) (Ne.symm np.2.2)
          have hB1 := hB.setCell (p := ⟨w1.heap.size, 8, none⟩) hz1 (.int .i64 (-1))
          have hs1 : w.heap.size ≤ (wr.setCell ⟨w1.heap.size, 8, none⟩ (.int .i64 (-1))).heap.size := by simp [World.setCell]; omega
          have HMN : Hid (6 + 4 ≤ m.n) := by have := hG.out.n; show 6 + 4 ≤ m.n; omega
          obtain ⟨k0, k1, k2, k3, k4, k5, k6, k7, k8'⟩ := env_cells hX
          go_wp2_with fail
          clear hM hX hB hs
          refine (advance_any 4 1 1 20 100 600 3 (-1) g gw gh m _ hM1 (by omega) HMN.out (by omega)).mono ?_
          rintro e w4 ⟨b, m', rfl, hM4, hE4, hK4⟩
          have HP2 := Lib.hid (hG.out.adv hE4.out)
          have hX4 := hK4.heap hX1 np.1 np.2.1 np.2.2
          have hB4 := hB1.trans (hK4.below b0 b1 b2 hs1)
          have hs4 := Nat.le_trans hs1 hK4.size
          clear hM1 hX1 hB1 hs1 hE4 hK4 k0 k1 k2 k3 k4 k5 k6 k7 k8' k8 fx hst
          have hst4 : m'.steps < 4611686018427386000 := by have := HP2.out.st; omega
          have HMN4 : Hid (6 + 4 ≤ m'.n) := by have := HP2.out.n; show 6 + 4 ≤ m'.n; omega
          by_cases q1 : k < n
          · obtain ⟨b', off, rfl, hb, hc⟩ := HL.out.2 (by omega)
            have hcl : w4.cell? ⟨b', off + k, none⟩ = some (.bool (l k)) := (hB4.cell hb).trans (hc k q1)
            have hne : b' ≠ w1.heap.size := by omega
            clear hc
            have k8 := cell_of_row _ w1.heap.size 8 _ _ _ hX4
            have fx := frozen_of 8 hX4
            have hX1 : (w4.setCell ⟨w1.heap.size, 8, none⟩ (.int .i64 2)).heap[w1.heap.size]? = some (.cells #[.int .i64 4, .int .i64 1, .int .i64 1, .int .i64 20, .int .i64 100, .int .i64 600, .int .i64 3, .pointer (some ⟨g, 0, none⟩), .int .i64 2] 87 (0, 0)) := heap_set_self 8 _ hX4
            have hM1 := hM4.far (p := ⟨w1.heap.size, 8, none⟩) (.int .i64 2) (Ne.symm np.1) (Ne.symm np.2.1) (Ne.symm np.2.2)
            have hB1 := hB4.setCell (p := ⟨w1.heap.size, 8, none⟩) hz1 (.int .i64 2)
            have hs1 : w.heap.size ≤ (w4.setCell ⟨w1.heap.size, 8, none⟩ (.int .i64 2)).heap.size := by simp [World.setCell]; omega
            obtain ⟨k0, k1, k2, k3, k4, k5, k6, k7, k8'⟩ := env_cells hX4
            cases hlk : l k
            · rw [hlk] at hcl
              clear hlk
              go_wp2_with fail
              refine (PinOut 4 1 1 20 100 600 3 2 g gw gh m' _ hM1 2 rfl (by omega) (by have := HMN4.out; omega) (by omega)).mono ?_
              rintro e w6 ⟨rfl, hM6, hK6⟩
              have hX6 := hK6.heap hX1 np.1 np.2.1 np.2.2
              have hB6 := hB1.trans (hK6.below b0 b1 b2 hs1)
              have hs6 := Nat.le_trans hs1 hK6.size
              clear k0 k1 k2 k3 k4 k5 k6 k7 k8' k8 fx hM1 hX1 hB1 hs1 hM4 hX4 hB4 hs4 hK6 hcl
              go_wp2
              go_roundw
              case rel => exact ⟨k + 1, _, 2, by go_num, by omega, HP2.out.out, hM6, hX6, hB6, hs6⟩
              case measure => simp [intOf]; omega
            · rw [hlk] at hcl
              clear hlk
              go_wp2_with fail
              have hz3 : (w4.setCell ⟨w1.heap.size, 8, none⟩ (.int .i64 2)).heap.size = w4.heap.size := by simp [World.setCell]
              clear k0 k1 k2 k3 k4 k5 k6 k7 k8' k8 fx hM4 hX4 hB4 hs4 hcl
              generalize w4.setCell ⟨w1.heap.size, 8, none⟩ (.int .i64 2) = W3 at hM1 hX1 hB1 hs1 hz3 ⊢
              have hI : InAt (W3.alloc (.cells #[.int .i64 0, .int .u64 0] 91)) w4.heap.size 0 0 := by rw [← hz3]; exact heap_alloc_new W3 _
              have hM := hM1.below (below_new W3 (.cells #[.int .i64 0, .int .u64 0] 91))
              have hX := ((below_new W3 (.cells #[.int .i64 0, .int .u64 0] 91)).block _ (by exact lt_of_heap hX1)).trans hX1
              have hB := hB1.alloc hs1 (.cells #[.int .i64 0, .int .u64 0] 91)
              have hs : w.heap.size ≤ (W3.alloc (.cells #[.int .i64 0, .int .u64 0] 91)).heap.size := by simp; omega
              clear npP hnx hbl HNN HS0
              have npP : w4.heap.size ≠ g ∧ w4.heap.size ≠ gw ∧ w4.heap.size ≠ gh := by have := hM1.lt; have := hM1.ltw; have := hM1.lth; omega
              have hnx : w1.heap.size ∉ [w4.heap.size, g, gw, gh] := by have := lt_of_heap hX1; simp; omega
              have hbl : ∀ k ∈ [w4.heap.size, g, gw, gh], w.heap.size ≤ k := by simp; omega
              have HNN : Hid (7 + 2 ≤ m'.n) := by have := HMN4.out; show 7 + 2 ≤ m'.n; omega
              have HS0 := Lib.hid hst4
              clear hM1 hX1 hB1 hst4 hz3 hs1
              generalize w4.heap.size = P0 at hI npP hnx hbl ⊢
              have hP0 : Hid (PL 2 m' 0 m' 0 0) := ⟨rfl, by omega, fun _ _ => rfl, .inl ⟨rfl, rfl⟩⟩
              go_wp2_with fail
              go_loopw [12] (fun i wr => ∃ (k2 : Nat) (m2 : Ms) (pc ep : Int), i = .int .i64 k2 ∧ Hid (PL 2 m' k2 m2 pc ep) ∧ MemAt wr g gw gh m2 ∧ InAt wr (P0) pc ep ∧ wr.heap[w1.heap.size]? = some (.cells #[.int .i64 4, .int .i64 1, .int .i64 1, .int .i64 20, .int .i64 100, .int .i64 600, .int .i64 3, .pointer (some ⟨g, 0, none⟩), .int .i64 2] 87 (0, 0)) ∧ Below w.heap.size w wr ∧ w.heap.size ≤ wr.heap.size) (fun i _ => 9 - (intOf i).toNat)
              case atStart => exact ⟨0, _, 0, 0, rfl, hP0, hM, hI, hX, hB, hs⟩
              case round =>
                clear hM hI hX hB hs hP0
                obtain ⟨k2, m2, pc, ep, rfl, hP, hM, hI, hX, hB, hs⟩ := hrel
                have hk2 : k2 ≤ 2 := hP.out.le
                have hki2 : (k2 : Int) < 9 := by omega
                have hst2 : m2.steps < 4611686018427387904 := by have := hP.out.steps; have := HS0.out; omega
                obtain ⟨d, m3, pc', ep', hnx', HC⟩ := PinStep_all 4 1 1 20 100 600 3 2 g gw gh (P0) m2 pc ep _ hM hI npP 2 rfl (by omega) (by rw [hP.out.n]; have := HNN.out; omega) hst2 hP.out.kind
                have hd := hP.out.next hnx'
                obtain ⟨k0, k1, k2', k3, k4, k5, k6, k7, k8⟩ := env_cells hX
                clear hnx' hst2
                rcases hd with ⟨rfl, HP'⟩ | ⟨rfl, HE⟩
                · go_wp2_with fail
                  refine HC.out.mono ?_
                  rintro e w9 ⟨rfl, hM9, hI9, hK9⟩
                  have hX9 := hK9.heap hX hnx
                  have hB9 := hB.trans (hK9.below hbl hs)
                  have hs9 := Nat.le_trans hs hK9.size
                  clear hK9 k0 k1 k2' k3 k4 k5 k6 k7 k8 HC hM hI hX hB hs
                  go_wp2
                  go_roundw
                  case rel => exact ⟨k2 + 1, m3, pc', ep', by go_num, HP', hM9, hI9, hX9, hB9, hs9⟩
                  case measure => simp [intOf]; omega
                · go_wp2_with fail
                  refine HC.out.mono ?_
                  rintro e w9 ⟨rfl, hM9, hI9, hK9⟩
                  have hX9 := hK9.heap hX hnx
                  have hB9 := hB.trans (hK9.below hbl hs)
                  have hs9 := Nat.le_trans hs hK9.size
                  clear hK9 k0 k1 k2' k3 k4 k5 k6 k7 k8 HC hM hI hX hB hs hI9
                  go_wp2
                  go_roundw
                  case rel => exact ⟨k + 1, m3, 2, by go_num, by omega, HP2.out.pinned HE.out, hM9, hX9, hB9, hs9⟩
                  case measure => simp [intOf]; omega
          · have q2 : n ≤ k := by omega
            clear q1
            go_wp2
            go_roundw
            case rel => exact ⟨k + 1, m', -1, by go_num, by omega, HP2.out.next, hM4, hX4, hB4, hs4⟩
            case measure => simp [intOf]; omega
        · have hge : v0 ≤ k := by omega
          clear hlt
          have k7 := cell_of_row _ w1.heap.size 7 _ _ _ hX
          have HMN : Hid (7 < m.n) := by have := hG.out.n; show 7 < m.n; omega
          have HP7 : Hid (∀ q : Nat, Calls Try.prog 49 #[.pointer (some ⟨g, 0, none⟩), .int .i64 7] (wr.drewN q) fun e w' => e = .returned (.int .u64 1) ∧ w' = wr.drewN q) :=
            fun q => Peek_val g gw gh m 7 1 _ (hM.drewN q) HMN.out hG.out.w7
          rcases hG.out.w0 with e | e
          · have HP0 : Hid (∀ q : Nat, Calls Try.prog 49 #[.pointer (some ⟨g, 0, none⟩), .int .i64 0] (wr.drewN q) fun e w' => e = .returned (.int .u64 0) ∧ w' = wr.drewN q) :=
              fun q => Peek_val g gw gh m 0 0 _ (hM.drewN q) (by have := HMN.out; omega) e
            clear e
            go_wp2
            go_quiet ((first | (go_at_call 61; exact Calls.quiet_of_same (LPin_any 1 _ (by omega) (by omega))) | (go_at_call 62; exact Calls.quiet_of_same (LEpoch_any _)) | (go_at_call_of 49 (7 : Int); exact Calls.quiet_of_same (HP7.out _)) | (go_at_call_of 49 (0 : Int); exact Calls.quiet_of_same (HP0.out _))))
            go_wp2
            go_ret
            exact ⟨rfl, below_drewN hB _⟩
          · have HP0 : Hid (∀ q : Nat, Calls Try.prog 49 #[.pointer (some ⟨g, 0, none⟩), .int .i64 0] (wr.drewN q) fun e w' => e = .returned (.int .u64 1) ∧ w' = wr.drewN q) :=
              fun q => Peek_val g gw gh m 0 1 _ (hM.drewN q) (by have := HMN.out; omega) e
            clear e
            go_wp2
            go_quiet ((first | (go_at_call 61; exact Calls.quiet_of_same (LPin_any 1 _ (by omega) (by omega))) | (go_at_call 62; exact Calls.quiet_of_same (LEpoch_any _)) | (go_at_call_of 49 (7 : Int); exact Calls.quiet_of_same (HP7.out _)) | (go_at_call_of 49 (0 : Int); exact Calls.quiet_of_same (HP0.out _))))
            go_wp2
            go_ret
            exact ⟨rfl, below_drewN hB _⟩
end Go.Proofs.Ytnpjfdiapoghnaa
