/- Layer 13's statement EpochGoes. -/
import Derived.Test.YtnpjfdiapoghnaaLaw13b
import Derived.Test.YtnpjfdiapoghnaaComes
namespace Go.Proofs.Ytnpjfdiapoghnaa
open Go Go.RowKit

/-- What holds ahead of the k-th pin. -/
structure EG (l : Nat → Int) (v0 : Int) (k : Nat) (m : Ms) (b : Bool) : Prop where
  n : m.n = 39
  st : m.steps ≤ 5 + k
  w0 : m.w 0 = v0
  old : ∀ j, j < k → 0 ≤ m.w (6 + j) ∧ m.w (6 + j) ≤ 65535
  new : ∀ j, k ≤ j → j < 8 → m.w (6 + j) = 0
  b : b = true ↔ ∀ j, j < k → (m.w (6 + j) = 0 ∨ m.w (6 + j) = v0 + 1)
theorem EG.next {l : Nat → Int} {v0 : Int} {k : Nat} {m : Ms} {b b' : Bool} {p : Int} (h : EG l v0 k m b) (h8 : k < 8) (hp : 0 ≤ p ∧ p ≤ 65535) (hb : b' = true ↔ b = true ∧ (p = 0 ∨ p = v0 + 1)) : EG l v0 (k + 1) ((m.step (6 + k)).set (6 + k) p) b' := by
  have e1 : ∀ j, j ≠ 6 + k → ((m.step (6 + k)).set (6 + k) p).w j = m.w j := fun j hj => upd_other m.w (6 + k) j p hj
  have e2 : ((m.step (6 + k)).set (6 + k) p).w (6 + k) = p := upd_same m.w (6 + k) p
  refine ⟨h.n, ?_, (e1 0 (by omega)).trans h.w0, fun j hj => ?_, fun j hj hj8 => (e1 _ (by omega)).trans (h.new j (by omega) hj8), ?_⟩
  · have := h.st
    show m.steps + 1 ≤ _; omega
  · by_cases e : j = k
    · subst e; rw [e2]; exact hp
    · rw [e1 _ (by omega)]; exact h.old j (by omega)
  · rw [hb, h.b]
    constructor
    · rintro ⟨h1, h2⟩ j hj
      by_cases e : j = k
      · subst e; rw [e2]; exact h2
      · rw [e1 _ (by omega)]; exact h1 j (by omega)
    · intro h1
      refine ⟨fun j hj => ?_, ?_⟩
      · have := h1 j (by omega)
        rw [e1 _ (by omega)] at this; exact this
      · have := h1 k (by omega)
        rw [e2] at this; exact this
theorem EG.all {l : Nat → Int} {v0 : Int} {k : Nat} {m : Ms} {b : Bool} (h : EG l v0 k m b) (h8 : k ≤ 8) (hv : IntKind.u64.wrap (v0 + 1) = v0 + 1) : b = true ↔ ∀ j, j < 8 → okPin m (m.w 0) j := by
  rw [h.b, h.w0]
  unfold okPin
  rw [hv]
  constructor
  · intro h1 j hj
    by_cases e : j < k
    · exact h1 j e
    · exact .inl (h.new j (by omega) hj)
  · intro h1 j hj
    exact h1 j (by omega)

set_option maxHeartbeats 4000000 in
set_option maxRecDepth 100000 in
theorem EpochGoes_any (nw : Int) (A : Option Addr) (n c : Nat) (l : Nat → Int) (w : World) (hl : Comes w .u64 A n l) :
    Calls Try.prog 19 #[.int .u64 nw, .slice A n c] w fun e w' => e = .returned (.bool true) ∧ Below w.heap.size w w' := by
  have HL := Lib.hid hl
  have hn := hl.1
  clear hl
  obtain ⟨v0, ev, bv⟩ : ∃ x : Int, bits .and .u64 nw 65535 = x ∧ 0 ≤ x ∧ x ≤ 65535 := ⟨_, rfl, andw_bd 16 nw 65535 .u64 (.inr rfl) (by decide) (by omega)⟩
  have hv1 : IntKind.u64.wrap (v0 + 1) = v0 + 1 := wrap_u64_in _ (by omega) (by omega)
  obtain ⟨bv0, bv1⟩ := bv
  go_enter Try.func19, Try.ntmps19
  go_wp2_with fail
  refine (Arena_any 8 1 20 _ (by omega) (by omega) (by omega)).mono ?_
  rintro e w1 ⟨g, gw, gh, rfl, hM, hb1, b0, b1, b2⟩
  go_wp2_with fail
  refine (awake13_any _).mono ?_
  rintro e w2 ⟨rfl, hb2⟩
  have hl := hM.lt
  have hlw := hM.ltw
  have hlh := hM.lth
  have np : w1.heap.size ≠ g ∧ w1.heap.size ≠ gw ∧ w1.heap.size ≠ gh := by omega
  clear hl hlw hlh
  have hz1 := hb1.size
  have hX : w2.heap[w1.heap.size]? = some (.cells #[.int .i64 8, .int .i64 1, .int .i64 1, .int .i64 20, .int .i64 100, .int .i64 600, .int .i64 3, .pointer (some ⟨g, 0, none⟩), .int .i64 0] 87 (0, 0)) := by
    rw [hb2.block _ (by simp)]; exact heap_alloc_new w1 _
  have hB : Below w.heap.size w w2 := (hb1.alloc hz1 _).trans (hb2.mono (by simp; omega))
  have hs : w.heap.size ≤ w2.heap.size := by have := hb2.size; simp at this; omega
  replace hM := (hM.below (below_new w1 (.cells #[.int .i64 8, .int .i64 1, .int .i64 1, .int .i64 20, .int .i64 100, .int .i64 600, .int .i64 3, .pointer (some ⟨g, 0, none⟩), .int .i64 0] 87))).below hb2
  clear hb1 hb2
  have HF : Hid ((freshOne 8 1 20).n = 39 ∧ (freshOne 8 1 20).steps = 4) := ⟨rfl, rfl⟩
  go_wp2
  have k7 := cell_of_row _ w1.heap.size 7 _ _ _ hX
  (first | (go_region_held3 (fun w' => w'.cell? ⟨w1.heap.size, 7, none⟩ = some (.pointer (some ⟨g, 0, none⟩)))
    ((first | exact cell_of_row _ w1.heap.size 7 _ _ _ hX8 | exact cell_of_row w2.drew w1.heap.size 7 _ _ _ hX))
    (first
    | (go_at_call 62; refine (LEpoch_any _).mono ?_; rintro e w7 ⟨rfl, hw⟩; obtain rfl := hw.symm; clear hw)
    | (go_at_call 51; refine (Store_yes g gw gh (freshOne 8 1 20) 0 v0 _ hM.drew (by decide) (by decide) ⟨by omega, by omega⟩).mono ?_; rintro e w8 ⟨rfl, hM8, hK8⟩; have hX8 := hK8.heap (b := w1.heap.size) (W := w2.drew) hX np.1 np.2.1 np.2.2))) | fail)
  have hB8 := hB.drew.trans (hK8.below b0 b1 b2 hs)
  have hs8 : w.heap.size ≤ w8.heap.size := Nat.le_trans hs hK8.size
  have HG0 : Hid (EG l v0 0 (((freshOne 8 1 20).step 0).set 0 v0) true) := by
    refine ⟨HF.out.1, ?_, upd_same (freshOne 8 1 20).w 0 v0, fun j hj => absurd hj (by omega), fun j _ hj => ?_, ⟨fun _ j hj => absurd hj (by omega), fun _ => rfl⟩⟩
    · have := HF.out.2
      show (freshOne 8 1 20).steps + 1 ≤ _; omega
    · exact (upd_other (freshOne 8 1 20).w 0 (6 + j) v0 (by omega)).trans (fresh_w 8 1 20 _ (by omega) (by omega) (by omega))
  clear hM hX hB hs k7 hK8
  generalize ((freshOne 8 1 20).step 0).set 0 v0 = m0 at hM8 HG0
  clear HF
  go_wp2_with fail
  go_loopw [8, 9, 10] (fun b i _ wr => ∃ (k : Nat) (m : Ms) (bb : Bool), i = .int .i64 k ∧ b = .bool bb ∧ k ≤ 8 ∧ k ≤ n ∧ Hid (EG l v0 k m bb) ∧ MemAt wr g gw gh m ∧ wr.heap[w1.heap.size]? = some (.cells #[.int .i64 8, .int .i64 1, .int .i64 1, .int .i64 20, .int .i64 100, .int .i64 600, .int .i64 3, .pointer (some ⟨g, 0, none⟩), .int .i64 0] 87 (0, 0)) ∧ Below w.heap.size w wr ∧ w.heap.size ≤ wr.heap.size) (fun _ i _ _ => 8 - (intOf i).toNat)
  case atStart => exact ⟨0, _, true, rfl, rfl, by omega, by omega, HG0, hM8, hX8, hB8, hs8⟩
  case round =>
    rename_i wr
    obtain ⟨k, m, bb, rfl, rfl, hk8, hkn, hG, hM, hX, hB, hs⟩ := hrel
    clear HG0 hM8 hX8 hB8 hs8
    have hst : m.steps < 4611686018427387000 := by have := hG.out.st; omega
    by_cases hlt : k < n ∧ k < 8
    · obtain ⟨q1, q2⟩ := hlt
      obtain ⟨b', off, rfl, hb, hc⟩ := HL.out.2 (by omega)
      have hcl : wr.cell? ⟨b', off + k, none⟩ = some (.int .u64 (l k)) := (hB.cell hb).trans (hc k q1)
      clear hc
      obtain ⟨p0, ep, bp⟩ : ∃ x : Int, bits .and .u64 (l k) 65535 = x ∧ 0 ≤ x ∧ x ≤ 65535 := ⟨_, rfl, andw_bd 16 (l k) 65535 .u64 (.inr rfl) (by decide) (by omega)⟩
      have HBP := Lib.hid bp
      clear bp
      have k7 := cell_of_row _ w1.heap.size 7 _ _ _ hX
      have HK6 : Hid (6 + (k : Int) = ((6 + k : Nat) : Int)) := by show 6 + (k : Int) = ((6 + k : Nat) : Int); omega
      have hmn : 6 + k < m.n := by have := hG.out.n; omega
      go_wp2
      (first | (go_region_held3 (fun w' => w'.cell? ⟨w1.heap.size, 7, none⟩ = some (.pointer (some ⟨g, 0, none⟩)))
        ((first | exact cell_of_row _ w1.heap.size 7 _ _ _ hX8 | exact cell_of_row wr.drew w1.heap.size 7 _ _ _ hX))
        (first
        | (go_at_call 61; refine (LPin_any k _ (by omega) (by omega)).mono ?_; rintro e w7 ⟨rfl, hw⟩; obtain rfl := hw.symm; clear hw)
        | (go_at_call 51; rw [HK6.out]; refine (Store_yes g gw gh m (6 + k) p0 _ hM.drew hmn (by omega) ⟨by have := HBP.out; omega, by have := HBP.out; omega⟩).mono ?_; rintro e w8 ⟨rfl, hM8, hK8⟩; have hX8 := hK8.heap (b := w1.heap.size) (W := wr.drew) hX np.1 np.2.1 np.2.2))) | fail)
      all_goals
        have hB8 := hB.drew.trans (hK8.below b0 b1 b2 hs)
        have hs8 : w.heap.size ≤ w8.heap.size := Nat.le_trans hs hK8.size
        clear k7 hcl hK8
        cases bb
        · go_wp2
          go_roundw
          case rel => exact ⟨k + 1, _, false, by go_num, rfl, by omega, by omega, hG.out.next q2 HBP.out ⟨fun h => (by cases h), fun h => by cases h.1⟩, hM8, hX8, hB8, hs8⟩
          case measure => simp [intOf]; omega
        · by_cases e0 : p0 = 0
          · have e0' : (p0 == 0) = true := by rw [e0]; rfl
            go_wp2
            go_roundw
            case rel => exact ⟨k + 1, _, true, by go_num, rfl, by omega, by omega, hG.out.next q2 HBP.out ⟨fun _ => ⟨rfl, .inl e0⟩, fun _ => rfl⟩, hM8, hX8, hB8, hs8⟩
            case measure => simp [intOf]; omega
          · have e0' : (p0 == 0) = false := beq_eq_false_iff_ne.2 e0
            by_cases e1 : p0 = v0 + 1
            · have e1' : (p0 == v0 + 1) = true := beq_iff_eq.2 e1
              go_wp2
              go_roundw
              case rel => exact ⟨k + 1, _, true, by go_num, rfl, by omega, by omega, hG.out.next q2 HBP.out ⟨fun _ => ⟨rfl, .inr e1⟩, fun _ => rfl⟩, hM8, hX8, hB8, hs8⟩
              case measure => simp [intOf]; omega
            · have e1' : (p0 == v0 + 1) = false := beq_eq_false_iff_ne.2 e1
              go_wp2
              go_roundw
              case rel => exact ⟨k + 1, _, false, by go_num, rfl, by omega, by omega, hG.out.next q2 HBP.out ⟨fun h => (by cases h), fun h => by rcases h.2 with h | h; exact absurd h e0; exact absurd h e1⟩, hM8, hX8, hB8, hs8⟩
              case measure => simp [intOf]; omega
    · obtain ⟨k0, k1, k2, k3, k4, k5, k6, k7, k8⟩ := env_cells hX
      have hall := hG.out.all hk8 hv1
      have hmn : 6 + 8 ≤ m.n := by have := hG.out.n; omega
      have hw0 := hG.out.w0
      have HMN := Lib.hid hmn
      have HW0 := Lib.hid hw0
      have hge : n ≤ k ∨ (k < n ∧ 8 ≤ k) := by omega
      clear hmn hw0 hlt
      cases bb
      · have hno := Lib.hid (fun h => by cases hall.2 h : ¬ ∀ j, j < 8 → okPin m (m.w 0) j)
        clear hall
        rcases hge with q | ⟨q, q2⟩
        all_goals
          go_wp2_with fail
          refine (advance_no 8 1 1 20 100 600 3 0 g gw gh m _ hM (by omega) HMN.out hst hno.out v0 HW0.out).mono ?_
          rintro e w9 ⟨m', rfl, hM9, hE, hK9⟩
          have hX9 := hK9.heap hX np.1 np.2.1 np.2.2
          have hB9 := hB.trans (hK9.below b0 b1 b2 hs)
          clear k0 k1 k2 k3 k4 k5 k6 k7 k8
          have k7 := cell_of_row _ w1.heap.size 7 _ _ _ hX9
          have HP : Hid (∀ q : Nat, Calls Try.prog 49 #[.pointer (some ⟨g, 0, none⟩), .int .i64 0] (w9.drewN q) fun e w' => e = .returned (.int .u64 v0) ∧ w' = w9.drewN q) :=
            fun q => Peek_val g gw gh m' 0 v0 _ (hM9.drewN q) (by rw [hE.out.n]; have := HMN.out; omega) hE.out.w0
          go_wp2
          go_quiet ((first | (go_at_call 62; exact Calls.quiet_of_same (LEpoch_any _)) | (go_at_call 49; exact Calls.quiet_of_same (HP.out _))))
          go_wp2
          go_ret
          exact ⟨rfl, below_drewN hB9 _⟩
      · have hyes := Lib.hid (hall.1 rfl)
        clear hall
        rcases hge with q | ⟨q, q2⟩
        all_goals
          go_wp2_with fail
          refine (advance_yes 8 1 1 20 100 600 3 0 g gw gh m _ hM (by omega) HMN.out hst hyes.out (v0 + 1) (by rw [HW0.out]; exact hv1)).mono ?_
          rintro e w9 ⟨m', rfl, hM9, hE, hK9⟩
          have hX9 := hK9.heap hX np.1 np.2.1 np.2.2
          have hB9 := hB.trans (hK9.below b0 b1 b2 hs)
          clear k0 k1 k2 k3 k4 k5 k6 k7 k8
          have k7 := cell_of_row _ w1.heap.size 7 _ _ _ hX9
          have HP : Hid (∀ q : Nat, Calls Try.prog 49 #[.pointer (some ⟨g, 0, none⟩), .int .i64 0] (w9.drewN q) fun e w' => e = .returned (.int .u64 (v0 + 1)) ∧ w' = w9.drewN q) :=
            fun q => Peek_val g gw gh m' 0 (v0 + 1) _ (hM9.drewN q) (by rw [hE.out.n]; have := HMN.out; omega) hE.out.w0
          go_wp2
          go_quiet ((first | (go_at_call 62; exact Calls.quiet_of_same (LEpoch_any _)) | (go_at_call 49; exact Calls.quiet_of_same (HP.out _))))
          go_wp2
          go_ret
          exact ⟨rfl, below_drewN hB9 _⟩
end Go.Proofs.Ytnpjfdiapoghnaa
