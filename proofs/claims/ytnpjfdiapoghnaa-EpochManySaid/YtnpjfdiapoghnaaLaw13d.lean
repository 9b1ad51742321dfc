/- Layer 13's statement EpochMany. -/
import Derived.Test.YtnpjfdiapoghnaaLaw13p
namespace Go.Proofs.Ytnpjfdiapoghnaa
open Go Go.RowKit

/-- What holds ahead of the k-th round. -/
structure EM (pins : Bool) (k : Nat) (m : Ms) : Prop where
  n : m.n = 33
  st : m.steps ≤ 4 + 14 * k
  w0 : m.w 0 = k
  w6 : pins = false → m.w 6 = 0
  w7 : m.w 7 = 0
/-- What holds ahead of the k-th try. -/
structure EMid (k : Nat) (m : Ms) : Prop where
  n : m.n = 33
  st : m.steps ≤ 7 + 14 * k
  w0 : m.w 0 = k
  w6 : m.w 6 = 0 ∨ m.w 6 = k + 1
  w7 : m.w 7 = 0
theorem EM.mid {k : Nat} {m : Ms} (h : EM false k m) : EMid k m := ⟨h.n, by have := h.st; omega, h.w0, .inl (h.w6 rfl), h.w7⟩
theorem EM.pinned {k : Nat} {m m' : Ms} (h : EM true k m) (hk : k ≤ 63) (hp : PLEnd 0 m m') : EMid k m' := by
  refine ⟨hp.n.trans h.n, by have := h.st; have := hp.steps; omega, (hp.w 0 (by omega)).trans h.w0, .inr ?_, (hp.w 7 (by omega)).trans h.w7⟩
  have := hp.pin
  rw [h.w0, wrap_u64_in _ (by omega) (by omega)] at this
  exact this
theorem EMid.ok {k : Nat} {m : Ms} (h : EMid k m) (hk : k ≤ 63) : ∀ j, j < 2 → okPin m (m.w 0) j := by
  intro j hj
  unfold okPin
  rw [h.w0, wrap_u64_in _ (by omega) (by omega)]
  obtain rfl | rfl : j = 0 ∨ j = 1 := by omega
  · exact h.w6
  · exact .inl h.w7
theorem EMid.next {pins : Bool} {k : Nat} {m m' : Ms} (h : EMid k m) (hp : pins = false → m.w 6 = 0) (hy : AYes m m' ((k : Int) + 1)) : EM pins (k + 1) m' := by
  refine ⟨hy.n.trans h.n, by have := h.st; have := hy.hi; omega, by rw [hy.w0]; omega, fun e => (hy.w 6 (by omega)).trans (hp e), (hy.w 7 (by omega)).trans h.w7⟩

set_option maxHeartbeats 4000000 in
set_option maxRecDepth 100000 in
theorem EpochMany_any (tm : Int) (pins : Bool) (w : World) :
    Calls Try.prog 21 #[.int .i64 tm, .bool pins] w fun e w' => e = .returned (.bool true) ∧ Below w.heap.size w w' := by
  obtain ⟨v0, ev, bv⟩ : ∃ x : Int, bits .and .i64 tm 63 = x ∧ 0 ≤ x ∧ x ≤ 63 := ⟨_, rfl, andw_bd 6 tm 63 .i64 (.inl rfl) (by decide) (by omega)⟩
  obtain ⟨bv0, bv1⟩ := bv
  go_enter Try.func21, Try.ntmps21
  go_wp2_with fail
  refine (Arena_any 2 1 20 _ (by omega) (by omega) (by omega)).mono ?_
  rintro e w1 ⟨g, gw, gh, rfl, hM, hb1, b0, b1, b2⟩
  go_wp2_with fail
  refine (awake13_any _).mono ?_
  rintro e w2 ⟨rfl, hb2⟩
  have hl := hM.lt
  have hlw := hM.ltw
  have hlh := hM.lth
  have np : w1.heap.size ≠ g ∧ w1.heap.size ≠ gw ∧ w1.heap.size ≠ gh := by omega
  clear hl hlw hlh
  have hz1 := hb1.size
  have hX : w2.heap[w1.heap.size]? = some (.cells #[.int .i64 2, .int .i64 1, .int .i64 1, .int .i64 20, .int .i64 100, .int .i64 600, .int .i64 3, .pointer (some ⟨g, 0, none⟩), .int .i64 0] 87 (0, 0)) := by
    rw [hb2.block _ (by simp)]; exact heap_alloc_new w1 _
  have hB : Below w.heap.size w w2 := (hb1.alloc hz1 _).trans (hb2.mono (by simp; omega))
  have hs : w.heap.size ≤ w2.heap.size := by have := hb2.size; simp at this; omega
  replace hM := (hM.below (below_new w1 (.cells #[.int .i64 2, .int .i64 1, .int .i64 1, .int .i64 20, .int .i64 100, .int .i64 600, .int .i64 3, .pointer (some ⟨g, 0, none⟩), .int .i64 0] 87))).below hb2
  clear hb1 hb2
  have HG0 : Hid (EM pins 0 (freshOne 2 1 20)) := ⟨rfl, by decide, fresh_w 2 1 20 _ (by omega) (by omega) (by omega), fun _ => fresh_w 2 1 20 _ (by omega) (by omega) (by omega), fresh_w 2 1 20 _ (by omega) (by omega) (by omega)⟩
  generalize freshOne 2 1 20 = m0 at hM HG0
  go_wp2_with fail
  go_loopw [8, 9, 10] (fun i _ _ wr => ∃ (k : Nat) (m : Ms), i = .int .i64 k ∧ (k : Int) ≤ v0 ∧ Hid (EM pins k m) ∧ MemAt wr g gw gh m ∧ wr.heap[w1.heap.size]? = some (.cells #[.int .i64 2, .int .i64 1, .int .i64 1, .int .i64 20, .int .i64 100, .int .i64 600, .int .i64 3, .pointer (some ⟨g, 0, none⟩), .int .i64 0] 87 (0, 0)) ∧ Below w.heap.size w wr ∧ w.heap.size ≤ wr.heap.size) (fun i _ _ _ => v0.toNat - (intOf i).toNat)
  case atStart => exact ⟨0, _, rfl, by omega, HG0, hM, hX, hB, hs⟩
  case round =>
    rename_i wr
    clear HG0 hM hX hB hs
    obtain ⟨k, m, rfl, hkv, hG, hM, hX, hB, hs⟩ := hrel
    have hk : k ≤ 63 := by omega
    have hst : m.steps < 4611686018427386000 := by have := hG.out.st; omega
    by_cases hlt : (k : Int) < v0
    · have fx := frozen_of 8 hX
      have k8 := cell_of_row _ w1.heap.size 8 _ _ _ hX
      have hX1 : (wr.setCell ⟨w1.heap.size, 8, none⟩ (.int .i64 0)).heap[w1.heap.size]? = some (.cells #[.int .i64 2, .int .i64 1, .int .i64 1, .int .i64 20, .int .i64 100, .int .i64 600, .int .i64 3, .pointer (some ⟨g, 0, none⟩), .int .i64 0] 87 (0, 0)) := heap_set_self 8 _ hX
      have hM1 : MemAt (wr.setCell ⟨w1.heap.size, 8, none⟩ (.int .i64 0)) g gw gh m := hM.far (p := ⟨w1.heap.size, 8, none⟩) _ (Ne.symm np.1) (Ne.symm np.2.1) (Ne.symm np.2.2)
      have hB1 : Below w.heap.size w (wr.setCell ⟨w1.heap.size, 8, none⟩ (.int .i64 0)) := hB.setCell (p := ⟨w1.heap.size, 8, none⟩) hz1 _
      have hs1 : w.heap.size ≤ (wr.setCell ⟨w1.heap.size, 8, none⟩ (.int .i64 0)).heap.size := by simp [World.setCell]; omega
      cases pins
      · go_wp2
        clear hM hX hB hs k8 fx
        generalize wr.setCell ⟨w1.heap.size, 8, none⟩ (.int .i64 0) = W3 at hM1 hX1 hB1 hs1 ⊢
        have HMID := Lib.hid hG.out.mid
        have hw6 : Hid (m.w 6 = 0) := hG.out.w6 rfl
        have hst4 : m.steps < 4611686018427387000 := by have := HMID.out.st; omega
        have HMN : Hid (6 + 2 ≤ m.n) := by have := HMID.out.n; show 6 + 2 ≤ m.n; omega
        have HOK := Lib.hid (HMID.out.ok hk)
        have hv : IntKind.u64.wrap (m.w 0 + 1) = (k : Int) + 1 := by rw [HMID.out.w0]; exact wrap_u64_in _ (by omega) (by omega)
        have HV := Lib.hid hv
        clear hv
        have hwi : IntKind.i64.wrap ((k : Int) + 1) = (k : Int) + 1 := by rw [IntWalk.i64_left]; exact IntWalk.wrap64_in _ ⟨by omega, by omega⟩
        have hwk : IntKind.u64.wrap ((k : Int) + 1) = (k : Int) + 1 := wrap_u64_in _ (by omega) (by omega)
        replace hB1 := hB1.drew
        replace hM1 := hM1.drew
        replace hX1 : (W3).drew.heap[w1.heap.size]? = _ := hX1
        replace hs1 : w.heap.size ≤ (W3).drew.heap.size := hs1
        (first | (go_region_held3 (fun w' => w'.cell? ⟨w1.heap.size, 0, none⟩ = some (.int .i64 2) ∧ w'.cell? ⟨w1.heap.size, 1, none⟩ = some (.int .i64 1) ∧ w'.cell? ⟨w1.heap.size, 2, none⟩ = some (.int .i64 1) ∧ w'.cell? ⟨w1.heap.size, 3, none⟩ = some (.int .i64 20) ∧ w'.cell? ⟨w1.heap.size, 4, none⟩ = some (.int .i64 100) ∧ w'.cell? ⟨w1.heap.size, 5, none⟩ = some (.int .i64 600) ∧ w'.cell? ⟨w1.heap.size, 6, none⟩ = some (.int .i64 3) ∧ w'.cell? ⟨w1.heap.size, 7, none⟩ = some (.pointer (some ⟨g, 0, none⟩)) ∧ w'.cell? ⟨w1.heap.size, 8, none⟩ = some (.int .i64 0))
            (exact ⟨cell_of_row _ w1.heap.size 0 _ _ _ hX1, cell_of_row _ w1.heap.size 1 _ _ _ hX1, cell_of_row _ w1.heap.size 2 _ _ _ hX1, cell_of_row _ w1.heap.size 3 _ _ _ hX1, cell_of_row _ w1.heap.size 4 _ _ _ hX1, cell_of_row _ w1.heap.size 5 _ _ _ hX1, cell_of_row _ w1.heap.size 6 _ _ _ hX1, cell_of_row _ w1.heap.size 7 _ _ _ hX1, cell_of_row _ w1.heap.size 8 _ _ _ hX1⟩)
            (first
              | (go_at_call 65; refine (advance_yes 2 1 1 20 100 600 3 0 g gw gh _ _ hM1 (by omega) HMN.out hst4 HOK.out _ HV.out).mono ?_; rintro e w5 ⟨m', rfl, hM', hE', hK⟩; replace hX1 := hK.heap hX1 np.1 np.2.1 np.2.2; replace hB1 := hB1.trans (hK.below b0 b1 b2 hs1); replace hs1 := Nat.le_trans hs1 hK.size; replace hM1 := hM'; clear hM' hK)
              | (go_at_call 62; refine (LEpoch_any _).mono ?_; rintro e w7 ⟨rfl, hw⟩; obtain rfl := hw.symm; clear hw)
              | (go_at_call 49; refine (Peek_val g gw gh _ 0 ((k : Int) + 1) _ hM1 (by rw [hE'.out.n]; have := HMN.out; omega) hE'.out.w0).mono ?_; rintro e w7 ⟨rfl, hw⟩; obtain rfl := hw.symm; clear hw))) | fail)
        all_goals
          go_wp2
          go_roundw
          case rel => exact ⟨k + 1, _, by go_num, by omega, HMID.out.next (fun _ => hw6.out) hE'.out, hM1, hX1, hB1, hs1⟩
          case measure => simp [intOf]; omega
      · go_wp2_with fail
        clear hM hX hB hs k8 fx
        have hz3 : (wr.setCell ⟨w1.heap.size, 8, none⟩ (.int .i64 0)).heap.size = wr.heap.size := by simp [World.setCell]
        generalize wr.setCell ⟨w1.heap.size, 8, none⟩ (.int .i64 0) = W3 at hM1 hX1 hB1 hs1 hz3 ⊢
        have hI : InAt (W3.alloc (.cells #[.int .i64 0, .int .u64 0] 91)) wr.heap.size 0 0 := by rw [← hz3]; exact heap_alloc_new W3 _
        have hM := hM1.below (below_new W3 (.cells #[.int .i64 0, .int .u64 0] 91))
        have hX := ((below_new W3 (.cells #[.int .i64 0, .int .u64 0] 91)).block _ (by exact lt_of_heap hX1)).trans hX1
        have hB := hB1.alloc hs1 (.cells #[.int .i64 0, .int .u64 0] 91)
        have hs : w.heap.size ≤ (W3.alloc (.cells #[.int .i64 0, .int .u64 0] 91)).heap.size := by simp; omega
        have npP : wr.heap.size ≠ g ∧ wr.heap.size ≠ gw ∧ wr.heap.size ≠ gh := by have := hM1.lt; have := hM1.ltw; have := hM1.lth; omega
        have hnx : w1.heap.size ∉ [wr.heap.size, g, gw, gh] := by have := lt_of_heap hX1; simp; omega
        have hbl : ∀ k ∈ [wr.heap.size, g, gw, gh], w.heap.size ≤ k := by simp; omega
        have HNN : Hid (7 + 0 ≤ m.n) := by have := hG.out.n; show 7 + 0 ≤ m.n; omega
        have HS0 := Lib.hid hst
        clear hM1 hX1 hB1 hst hz3 hs1
        generalize wr.heap.size = P0 at hI npP hnx hbl ⊢
        have hP0 : Hid (PL 0 m 0 m 0 0) := ⟨rfl, by omega, fun _ _ => rfl, .inl ⟨rfl, rfl⟩⟩
        go_wp2_with fail
        go_loopw [10] (fun i wr => ∃ (k2 : Nat) (m2 : Ms) (pc ep : Int), i = .int .i64 k2 ∧ Hid (PL 0 m k2 m2 pc ep) ∧ MemAt wr g gw gh m2 ∧ InAt wr (P0) pc ep ∧ wr.heap[w1.heap.size]? = some (.cells #[.int .i64 2, .int .i64 1, .int .i64 1, .int .i64 20, .int .i64 100, .int .i64 600, .int .i64 3, .pointer (some ⟨g, 0, none⟩), .int .i64 0] 87 (0, 0)) ∧ Below w.heap.size w wr ∧ w.heap.size ≤ wr.heap.size) (fun i _ => 9 - (intOf i).toNat)
        case atStart => exact ⟨0, _, 0, 0, rfl, hP0, hM, hI, hX, hB, hs⟩
        case round =>
          clear hM hI hX hB hs hP0
          obtain ⟨k2, m2, pc, ep, rfl, hP, hM, hI, hX, hB, hs⟩ := hrel
          have hk2 : k2 ≤ 2 := hP.out.le
          have hki2 : (k2 : Int) < 9 := by omega
          have hst2 : m2.steps < 4611686018427387904 := by have := hP.out.steps; have := HS0.out; omega
          obtain ⟨d, m3, pc', ep', hnx', HC⟩ := PinStep_all 2 1 1 20 100 600 3 0 g gw gh (P0) m2 pc ep _ hM hI npP 0 rfl (by omega) (by rw [hP.out.n]; have := HNN.out; omega) hst2 hP.out.kind
          have hd := hP.out.next hnx'
          obtain ⟨k0, k1, k2', k3, k4, k5, k6, k7, k8⟩ := env_cells hX
          clear hnx' hst2
          rcases hd with ⟨rfl, HP'⟩ | ⟨rfl, HE⟩
          · go_wp2_with fail
            refine HC.out.mono ?_
            rintro e w9 ⟨rfl, hM9, hI9, hK9⟩
            have hX9 := hK9.heap hX hnx
            have hB9 := hB.trans (hK9.below hbl hs)
            have hs9 := Nat.le_trans hs hK9.size
            clear hK9 k0 k1 k2' k3 k4 k5 k6 k7 k8 HC hM hI hX hB hs
            go_wp2
            go_roundw
            case rel => exact ⟨k2 + 1, m3, pc', ep', by go_num, HP', hM9, hI9, hX9, hB9, hs9⟩
            case measure => simp [intOf]; omega
          · go_wp2_with fail
            refine HC.out.mono ?_
            rintro e w9 ⟨rfl, hM9, hI9, hK9⟩
            have hX9 := hK9.heap hX hnx
            have hB9 := hB.trans (hK9.below hbl hs)
            have hs9 := Nat.le_trans hs hK9.size
            clear hK9 k0 k1 k2' k3 k4 k5 k6 k7 k8 HC hM hI hX hB hs hI9
            have HMID := Lib.hid (hG.out.pinned hk HE.out)
            go_wp2

            have hst4 : m3.steps < 4611686018427387000 := by have := HMID.out.st; omega
            have HMN : Hid (6 + 2 ≤ m3.n) := by have := HMID.out.n; show 6 + 2 ≤ m3.n; omega
            have HOK := Lib.hid (HMID.out.ok hk)
            have hv : IntKind.u64.wrap (m3.w 0 + 1) = (k : Int) + 1 := by rw [HMID.out.w0]; exact wrap_u64_in _ (by omega) (by omega)
            have HV := Lib.hid hv
            clear hv
            have hwi : IntKind.i64.wrap ((k : Int) + 1) = (k : Int) + 1 := by rw [IntWalk.i64_left]; exact IntWalk.wrap64_in _ ⟨by omega, by omega⟩
            have hwk : IntKind.u64.wrap ((k : Int) + 1) = (k : Int) + 1 := wrap_u64_in _ (by omega) (by omega)
            replace hB9 := hB9.drew
            replace hM9 := hM9.drew
            replace hX9 : (w9).drew.heap[w1.heap.size]? = _ := hX9
            replace hs9 : w.heap.size ≤ (w9).drew.heap.size := hs9
            (first | (go_region_held3 (fun w' => w'.cell? ⟨w1.heap.size, 0, none⟩ = some (.int .i64 2) ∧ w'.cell? ⟨w1.heap.size, 1, none⟩ = some (.int .i64 1) ∧ w'.cell? ⟨w1.heap.size, 2, none⟩ = some (.int .i64 1) ∧ w'.cell? ⟨w1.heap.size, 3, none⟩ = some (.int .i64 20) ∧ w'.cell? ⟨w1.heap.size, 4, none⟩ = some (.int .i64 100) ∧ w'.cell? ⟨w1.heap.size, 5, none⟩ = some (.int .i64 600) ∧ w'.cell? ⟨w1.heap.size, 6, none⟩ = some (.int .i64 3) ∧ w'.cell? ⟨w1.heap.size, 7, none⟩ = some (.pointer (some ⟨g, 0, none⟩)) ∧ w'.cell? ⟨w1.heap.size, 8, none⟩ = some (.int .i64 0))
                (exact ⟨cell_of_row _ w1.heap.size 0 _ _ _ hX9, cell_of_row _ w1.heap.size 1 _ _ _ hX9, cell_of_row _ w1.heap.size 2 _ _ _ hX9, cell_of_row _ w1.heap.size 3 _ _ _ hX9, cell_of_row _ w1.heap.size 4 _ _ _ hX9, cell_of_row _ w1.heap.size 5 _ _ _ hX9, cell_of_row _ w1.heap.size 6 _ _ _ hX9, cell_of_row _ w1.heap.size 7 _ _ _ hX9, cell_of_row _ w1.heap.size 8 _ _ _ hX9⟩)
                (first
                  | (go_at_call 65; refine (advance_yes 2 1 1 20 100 600 3 0 g gw gh _ _ hM9 (by omega) HMN.out hst4 HOK.out _ HV.out).mono ?_; rintro e w5 ⟨m', rfl, hM', hE', hK⟩; replace hX9 := hK.heap hX9 np.1 np.2.1 np.2.2; replace hB9 := hB9.trans (hK.below b0 b1 b2 hs9); replace hs9 := Nat.le_trans hs9 hK.size; replace hM9 := hM'; clear hM' hK)
                  | (go_at_call 62; refine (LEpoch_any _).mono ?_; rintro e w7 ⟨rfl, hw⟩; obtain rfl := hw.symm; clear hw)
                  | (go_at_call 49; refine (Peek_val g gw gh _ 0 ((k : Int) + 1) _ hM9 (by rw [hE'.out.n]; have := HMN.out; omega) hE'.out.w0).mono ?_; rintro e w7 ⟨rfl, hw⟩; obtain rfl := hw.symm; clear hw))) | fail)
            all_goals
              go_wp2
              go_roundw
              case rel => exact ⟨k + 1, _, by go_num, by omega, HMID.out.next (fun h => by cases h) hE'.out, hM9, hX9, hB9, hs9⟩
              case measure => simp [intOf]; omega
    · have hge : v0 ≤ k := by omega
      clear hlt
      go_wp2
      go_ret
      exact ⟨rfl, hB⟩
end Go.Proofs.Ytnpjfdiapoghnaa
