/- Layer 1's statement WordLives: the walk. -/
import Derived.Test.YtnpjfdiapoghnaaLaw1e
namespace Go.Proofs.Ytnpjfdiapoghnaa
open Go Go.RowKit

theorem and_i64_bd (k : Nat) (a m : Int) (hm : m = (2 ^ k : Nat) - 1) (hk : k ≤ 62) : 0 ≤ Go.bits .and .i64 a m ∧ Go.bits .and .i64 a m ≤ m := by
  have hp : 2 ^ k ≤ 2 ^ 62 := Nat.pow_le_pow_right (by omega) hk
  have h1 : 1 ≤ 2 ^ k := Nat.one_le_two_pow
  have hm' : m = ((2 ^ k - 1 : Nat) : Int) := by omega
  have hx : (BitVec.ofInt 64 m).toNat = 2 ^ k - 1 := by
    rw [hm', BitVec.ofInt_natCast, BitVec.toNat_ofNat]; exact Nat.mod_eq_of_lt (by omega)
  have e : Go.bits .and .i64 a m = IntKind.i64.wrap (((BitVec.ofInt 64 a &&& BitVec.ofInt 64 m).toNat : Nat) : Int) := rfl
  rw [e, BitVec.toNat_and, hx]
  have hle : (BitVec.ofInt 64 a).toNat &&& (2 ^ k - 1) ≤ 2 ^ k - 1 := Nat.and_le_right
  rw [IntKind.wrap_i64]
  omega

attribute [local go_sem high] eqHandle
set_option maxHeartbeats 16000000 in
set_option maxRecDepth 100000 in
theorem WordLives_any (a b c d : Int) (w : World) :
    Calls Try.prog 6 #[.agg #[.int .i64 a, .int .i64 b], .agg #[.int .i64 c, .int .i64 d]] w fun e w' => e = .returned (.bool true) ∧ Below w.heap.size w w' := by
  have ba := and_i64_bd 16 a 65535 (by decide) (by omega)
  have bb := and_i64_bd 15 b 32767 (by decide) (by omega)
  have bc := and_i64_bd 16 c 65535 (by decide) (by omega)
  have bd := and_i64_bd 15 d 32767 (by decide) (by omega)
  obtain ⟨x0, ex0⟩ : ∃ x : Int, bits .and .i64 a 65535 = x := ⟨_, rfl⟩
  obtain ⟨x1, ex1⟩ : ∃ x : Int, bits .and .i64 b 32767 = x := ⟨_, rfl⟩
  obtain ⟨y0, ey0⟩ : ∃ x : Int, bits .and .i64 c 65535 = x := ⟨_, rfl⟩
  obtain ⟨y1, ey1⟩ : ∃ x : Int, bits .and .i64 d 32767 = x := ⟨_, rfl⟩
  rw [ex0] at ba
  rw [ex1] at bb
  rw [ey0] at bc
  rw [ey1] at bd
  obtain ⟨ba0, ba1⟩ := ba
  obtain ⟨bb0, bb1⟩ := bb
  obtain ⟨bc0, bc1⟩ := bc
  obtain ⟨bd0, bd1⟩ := bd
  obtain ⟨p, hp⟩ : ∃ p : Int, Hid (p = x0 + (1 + x1) * 65536) := ⟨_, rfl⟩
  obtain ⟨q, hq⟩ : ∃ q : Int, Hid (q = y0 + (1 + y1) * 65536) := ⟨_, rfl⟩
  have HP : Hid (∀ w : World, Calls Try.prog 24 #[.agg #[.int .i64 x0, .int .i64 (1 + x1)]] w fun e w' => e = .returned (.int .u64 p) ∧ Below w.heap.size w w') := by
    intro w
    have h := PutHandle_any x0 (1 + x1) w
    rw [show putHandle x0 (1 + x1) = p from by unfold putHandle; rw [hp.out, fitI_in x0 65535 (by omega) (by omega), fitI_in (1 + x1) 65535 (by omega) (by omega)]] at h
    exact h
  have HQ : Hid (∀ w : World, Calls Try.prog 24 #[.agg #[.int .i64 y0, .int .i64 (1 + y1)]] w fun e w' => e = .returned (.int .u64 q) ∧ Below w.heap.size w w') := by
    intro w
    have h := PutHandle_any y0 (1 + y1) w
    rw [show putHandle y0 (1 + y1) = q from by unfold putHandle; rw [hq.out, fitI_in y0 65535 (by omega) (by omega), fitI_in (1 + y1) 65535 (by omega) (by omega)]] at h
    exact h
  have hpq : (p == q) = (x0 == y0 && 1 + x1 == 1 + y1) := by
    have h1 := hp.out
    have h2 := hq.out
    rw [Bool.eq_iff_iff]; simp; omega
  have HPQ := Lib.hid hpq
  clear hpq
  have hlt : x0 = y0 → decide (p < q) = decide (1 + x1 < 1 + y1) := by
    intro e
    have h1 := hp.out
    have h2 := hq.out
    rw [decide_eq_decide]; omega
  have HLT := Lib.hid hlt
  clear hlt hp hq
  have HX := BoxN.new ((w.alloc (.cells #[.int .i64 a, .int .i64 b] 23)).alloc (.cells #[.int .i64 c, .int .i64 d] 23)) #[.int .i64 x0, .int .i64 (1 + x1)] 23
  have HY := HX.more #[.int .i64 y0, .int .i64 (1 + y1)] 23
  replace HX := HX.step (below_new _ (.cells #[.int .i64 y0, .int .i64 (1 + y1)] 23))
  go_enter Try.func6, Try.ntmps6
  go_wp2
  have hB : Below w.heap.size w ((w.alloc (.cells #[.int .i64 a, .int .i64 b] 23)).alloc (.cells #[.int .i64 c, .int .i64 d] 23)) := (below_new _ _).alloc (by simp) _
  have hz : ((w.alloc (.cells #[.int .i64 a, .int .i64 b] 23)).alloc (.cells #[.int .i64 c, .int .i64 d] 23)).heap.size = w.heap.size + 1 + 1 := by simp
  have hz2 : (((w.alloc (.cells #[.int .i64 a, .int .i64 b] 23)).alloc (.cells #[.int .i64 c, .int .i64 d] 23)).alloc (.cells #[.int .i64 x0, .int .i64 (1 + x1)] 23)).heap.size = w.heap.size + 1 + 1 + 1 := by simp
  generalize hW : (((w.alloc (.cells #[.int .i64 a, .int .i64 b] 23)).alloc (.cells #[.int .i64 c, .int .i64 d] 23)).alloc (.cells #[.int .i64 x0, .int .i64 (1 + x1)] 23)).alloc (.cells #[.int .i64 y0, .int .i64 (1 + y1)] 23) = W4 at HX HY ⊢
  rw [hz] at HX
  rw [hz2] at HY
  clear hW hz2
  have k0 := HX.cells 0
  have k1 := HX.cells 1
  have k2 := HY.cells 0
  have k3 := HY.cells 1
  have kx := HX.lt
  have ky := HY.lt
  have hB4 : Below w.heap.size w W4.drew := (hB.trans (HX.below.mono (by omega))).drew
  clear hB hz HX HY
  simp at k0 k1 k2 k3
  (first | (go_region_held3 (fun w' => w'.cell? ⟨w.heap.size + 1 + 1, 0, none⟩ = some (.int .i64 x0) ∧ w'.cell? ⟨w.heap.size + 1 + 1, 1, none⟩ = some (.int .i64 (1 + x1)) ∧ w'.cell? ⟨w.heap.size + 1 + 1 + 1, 0, none⟩ = some (.int .i64 y0) ∧ w'.cell? ⟨w.heap.size + 1 + 1 + 1, 1, none⟩ = some (.int .i64 (1 + y1)) ∧ Below w.heap.size w w' ∧ w.heap.size + 1 + 1 < w'.heap.size ∧ w.heap.size + 1 + 1 + 1 < w'.heap.size)
      (first
        | exact ⟨k0, k1, k2, k3, hB4, kx, ky⟩
        | (go_split_ands
           refine ⟨(hb.cell (by assumption)).trans (by assumption), (hb.cell (by assumption)).trans (by assumption), (hb.cell (by assumption)).trans (by assumption), (hb.cell (by assumption)).trans (by assumption), Below.trans (by assumption) (hb.mono (by omega)), Nat.lt_of_lt_of_le (by assumption) hb.size, Nat.lt_of_lt_of_le (by assumption) hb.size⟩))
      (first
        | (go_at_call_of 24 x0; refine (HP.out _).mono ?_; rintro e w9 ⟨rfl, hb⟩)
        | (go_at_call_of 24 y0; refine (HQ.out _).mono ?_; rintro e w9 ⟨rfl, hb⟩))) | fail)
  go_split_ands
  go_wp2_with fail
  refine (awake1_any _).mono ?_
  rintro e w8 ⟨rfl, hb⟩
  have j0 : w8.cell? ⟨w.heap.size + 1 + 1, 0, none⟩ = some (.int .i64 x0) := (hb.cell (by assumption)).trans (by assumption)
  have j1 : w8.cell? ⟨w.heap.size + 1 + 1, 1, none⟩ = some (.int .i64 (1 + x1)) := (hb.cell (by assumption)).trans (by assumption)
  have j2 : w8.cell? ⟨w.heap.size + 1 + 1 + 1, 0, none⟩ = some (.int .i64 y0) := (hb.cell (by assumption)).trans (by assumption)
  have j3 : w8.cell? ⟨w.heap.size + 1 + 1 + 1, 1, none⟩ = some (.int .i64 (1 + y1)) := (hb.cell (by assumption)).trans (by assumption)
  have hB8 : Below w.heap.size w w8 := Below.trans (by assumption) (hb.mono (by omega))
  clear hb
  by_cases hxy : x0 = y0
  · have hl := HLT.out hxy
    have hpq := HPQ.out
    have hx0 : (x0 == y0) = true := beq_iff_eq.2 hxy
    have hx1 : (x0 != y0) = false := by rw [bne_eq_false_iff_eq]; exact hxy
    rw [hx0, Bool.true_and] at hpq
    clear hxy
    go_wp2
    go_ret
    exact ⟨rfl, hB8⟩
  · have hpq := HPQ.out
    have hx0 : (x0 == y0) = false := beq_eq_false_iff_ne.2 hxy
    have hx1 : (x0 != y0) = true := bne_iff_ne.2 hxy
    rw [hx0, Bool.false_and] at hpq
    clear hxy
    go_wp2
    go_ret
    exact ⟨rfl, hB8⟩
end Go.Proofs.Ytnpjfdiapoghnaa
