/- Layer 1's statement WordHandles: the walk. -/
import Derived.Test.YtnpjfdiapoghnaaLaw1c
import Derived.Test.YtnpjfdiapoghnaaLaw1d
namespace Go.Proofs.Ytnpjfdiapoghnaa
open Go Go.RowKit

theorem BoxN.more {w w1 : World} {g : Nat} {cs : Array Value} (h : BoxN w w1 g cs) (cs2 : Array Value) (t : TypeId) : BoxN w (w1.alloc (.cells cs2 t)) w1.heap.size cs2 :=
  ⟨fun j => cell_new _ _ _ _ _ rfl, fun j => World.frozen?_alloc_at _ _ _ _ (by simp), by have := h.at_; have := h.lt; omega, by simp, h.below.alloc (by have := h.at_; have := h.lt; omega) _⟩

attribute [local go_sem high] eqHandle
set_option maxHeartbeats 16000000 in
set_option maxRecDepth 100000 in
theorem WordHandles_a (a b n : Int) (w : World) (ha0 : -9223372036854775808 ≤ a) (ha : a ≤ 9223372036854775807) (hb0 : -9223372036854775808 ≤ b) (hb1 : b ≤ 9223372036854775807) (h0 : 0 ≤ n) (h1 : n < 18446744073709551616) (m0 : n < 65536) :
    Calls Try.prog 3 #[.agg #[.int .i64 a, .int .i64 b], .int .u64 n] w fun e w' => e = .returned (.bool true) ∧ Below w.heap.size w w' := by
  have f0 := fitI_bd a 65535 (by omega)
  have f1 := fitI_bd b 65535 (by omega)
  obtain ⟨p, hp⟩ : ∃ p : Int, Hid (p = fitI a 65535 + fitI b 65535 * 65536) := ⟨_, rfl⟩
  have HP : Hid (∀ w : World, Calls Try.prog 24 #[.agg #[.int .i64 a, .int .i64 b]] w fun e w' => e = .returned (.int .u64 p) ∧ Below w.heap.size w w') := by
    intro w; rw [hp.out]; exact PutHandle_any a b w
  have HU : Hid (putTo (l2 a b) (n2 16 16) 2 = p) := by
    show _ = _
    rw [hp.out]; simp [putTo, bitsTo, l2, n2]
  obtain ⟨q0, q1, is, hq, HH⟩ : ∃ (q0 q1 : Int) (is : Bool), Hid (0 ≤ a ∧ a < 65536 ∧ 1 ≤ b ∧ b ≤ 65535 → q0 = a ∧ q1 = b ∧ is = true) ∧ Hid (∀ w : World, Calls Try.prog 25 #[.int .u64 p] w fun e w' => e = .returned (.tuple #[.agg #[.int .i64 q0, .int .i64 q1], .bool is]) ∧ Below w.heap.size w w') := by
    by_cases hc : 65536 ≤ p
    · refine ⟨_, _, true, ?_, fun w => Handle_yes p w hc (by have := hp.out; omega)⟩
      rintro ⟨c0, c1, c2, c3⟩
      have h := hp.out
      rw [fitI_in a 65535 c0 (by omega), fitI_in b 65535 (by omega) c3] at h
      exact ⟨by omega, by omega, rfl⟩
    · refine ⟨0, 0, false, ?_, fun w => Handle_no p w (by have := hp.out; omega) (by omega) (by omega)⟩
      rintro ⟨c0, c1, c2, c3⟩
      have h := hp.out
      rw [fitI_in a 65535 c0 (by omega), fitI_in b 65535 (by omega) c3] at h
      omega
  clear hp f0 f1
  have HS := BoxN.new w #[.int .i64 a, .int .i64 b] 23
  have HN : Hid (∀ w : World, Calls Try.prog 25 #[.int .u64 n] w fun e w' => e = .returned (.tuple #[.agg #[.int .i64 0, .int .i64 0], .bool false]) ∧ Below w.heap.size w w') := fun w => Handle_no n w h0 h1 (.inl m0)
  have ha5 : a < 0 ∨ 65536 ≤ a ∨ (0 ≤ a ∧ a < 65536 ∧ b < 1) ∨ (0 ≤ a ∧ a < 65536 ∧ 65535 < b) ∨ (0 ≤ a ∧ a < 65536 ∧ 1 ≤ b ∧ b ≤ 65535) := by omega
  rcases ha5 with c0 | c0 | ⟨c0, c1, c2⟩ | ⟨c0, c1, c2⟩ | ⟨c0, c1, c2, c3⟩
  rotate_right
  · obtain ⟨e0, e1, rfl⟩ := hq.out ⟨c0, c1, c2, c3⟩
    obtain rfl := e0.symm
    obtain rfl := e1.symm
    clear hq e0 e1
    go_enter Try.func3, Try.ntmps3
    go_wp2_with fail
    refine (HP.out _).mono ?_
    rintro e w9 ⟨rfl, hb⟩
    replace HS := HS.step hb
    clear hb
    go_wp2_with fail
    refine (HH.out _).mono ?_
    rintro e w8 ⟨rfl, hb⟩
    replace HS := HS.step hb
    clear hb
    go_wp2_with fail
    refine (HN.out _).mono ?_
    rintro e w7 ⟨rfl, hb⟩
    have HQ := (HS.more #[.int .i64 a, .int .i64 b] 23).step hb
    replace HS := (HS.step (below_new _ _)).step hb
    clear hb
    go_wp2_with fail
    refine (awake1_any _).mono ?_
    rintro e w6 ⟨rfl, hb⟩
    have HX := (HS.more #[.int .i64 0, .int .i64 0] 23).step hb
    replace HS := (HS.step (below_new _ _)).step hb
    replace HQ := (HQ.step (below_new _ _)).step hb
    clear hb
    have k0 := HS.cells 0
    have k1 := HS.cells 1
    have l0 := HS.lt
    have k2 := HQ.cells 0
    have k3 := HQ.cells 1
    have l1 := HQ.lt
    have k4 := HX.cells 0
    have k5 := HX.cells 1
    have l2 := HX.lt
    go_wp2_with fail
    refine (Put2_at a b p 16 16 _ _ (by omega) (by omega) (by omega) ha hb1 HU rfl).mono ?_
    rintro e w5 ⟨rfl, hw⟩
    obtain rfl := hw.symm
    clear hw
    go_wp2
    go_ret
    exact ⟨rfl, (HS.below.alloc (by omega) _).alloc (by simp; omega) _⟩
  all_goals
    clear hq
    go_enter Try.func3, Try.ntmps3
    go_wp2_with fail
    refine (HP.out _).mono ?_
    rintro e w9 ⟨rfl, hb⟩
    replace HS := HS.step hb
    clear hb
    go_wp2_with fail
    refine (HH.out _).mono ?_
    rintro e w8 ⟨rfl, hb⟩
    replace HS := HS.step hb
    clear hb
    go_wp2_with fail
    refine (HN.out _).mono ?_
    rintro e w7 ⟨rfl, hb⟩
    have HQ := (HS.more #[.int .i64 q0, .int .i64 q1] 23).step hb
    replace HS := (HS.step (below_new _ _)).step hb
    clear hb
    go_wp2_with fail
    refine (awake1_any _).mono ?_
    rintro e w6 ⟨rfl, hb⟩
    have HX := (HS.more #[.int .i64 0, .int .i64 0] 23).step hb
    replace HS := (HS.step (below_new _ _)).step hb
    replace HQ := (HQ.step (below_new _ _)).step hb
    clear hb
    have k0 := HS.cells 0
    have k1 := HS.cells 1
    have l0 := HS.lt
    have k2 := HQ.cells 0
    have k3 := HQ.cells 1
    have l1 := HQ.lt
    have k4 := HX.cells 0
    have k5 := HX.cells 1
    have l2 := HX.lt
    go_wp2_with fail
    refine (Put2_at a b p 16 16 _ _ (by omega) (by omega) (by omega) ha hb1 HU rfl).mono ?_
    rintro e w5 ⟨rfl, hw⟩
    obtain rfl := hw.symm
    clear hw
    go_wp2
    go_ret
    exact ⟨rfl, (HS.below.alloc (by omega) _).alloc (by simp; omega) _⟩
set_option maxHeartbeats 16000000 in
set_option maxRecDepth 100000 in
theorem WordHandles_b (a b n : Int) (w : World) (ha0 : -9223372036854775808 ≤ a) (ha : a ≤ 9223372036854775807) (hb0 : -9223372036854775808 ≤ b) (hb1 : b ≤ 9223372036854775807) (h0 : 0 ≤ n) (h1 : n < 18446744073709551616) (m0 : 65536 ≤ n) (m1 : n < 4294967296) :
    Calls Try.prog 3 #[.agg #[.int .i64 a, .int .i64 b], .int .u64 n] w fun e w' => e = .returned (.bool true) ∧ Below w.heap.size w w' := by
  have f0 := fitI_bd a 65535 (by omega)
  have f1 := fitI_bd b 65535 (by omega)
  obtain ⟨p, hp⟩ : ∃ p : Int, Hid (p = fitI a 65535 + fitI b 65535 * 65536) := ⟨_, rfl⟩
  have HP : Hid (∀ w : World, Calls Try.prog 24 #[.agg #[.int .i64 a, .int .i64 b]] w fun e w' => e = .returned (.int .u64 p) ∧ Below w.heap.size w w') := by
    intro w; rw [hp.out]; exact PutHandle_any a b w
  have HU : Hid (putTo (l2 a b) (n2 16 16) 2 = p) := by
    show _ = _
    rw [hp.out]; simp [putTo, bitsTo, l2, n2]
  obtain ⟨q0, q1, is, hq, HH⟩ : ∃ (q0 q1 : Int) (is : Bool), Hid (0 ≤ a ∧ a < 65536 ∧ 1 ≤ b ∧ b ≤ 65535 → q0 = a ∧ q1 = b ∧ is = true) ∧ Hid (∀ w : World, Calls Try.prog 25 #[.int .u64 p] w fun e w' => e = .returned (.tuple #[.agg #[.int .i64 q0, .int .i64 q1], .bool is]) ∧ Below w.heap.size w w') := by
    by_cases hc : 65536 ≤ p
    · refine ⟨_, _, true, ?_, fun w => Handle_yes p w hc (by have := hp.out; omega)⟩
      rintro ⟨c0, c1, c2, c3⟩
      have h := hp.out
      rw [fitI_in a 65535 c0 (by omega), fitI_in b 65535 (by omega) c3] at h
      exact ⟨by omega, by omega, rfl⟩
    · refine ⟨0, 0, false, ?_, fun w => Handle_no p w (by have := hp.out; omega) (by omega) (by omega)⟩
      rintro ⟨c0, c1, c2, c3⟩
      have h := hp.out
      rw [fitI_in a 65535 c0 (by omega), fitI_in b 65535 (by omega) c3] at h
      omega
  clear hp f0 f1
  have HS := BoxN.new w #[.int .i64 a, .int .i64 b] 23
  obtain ⟨x0, x1, hx0, hx1⟩ : ∃ x0 x1 : Int, x0 = n % 65536 ∧ x1 = n / 65536 := ⟨_, _, rfl, rfl⟩
  have HN : Hid (∀ w : World, Calls Try.prog 25 #[.int .u64 n] w fun e w' => e = .returned (.tuple #[.agg #[.int .i64 x0, .int .i64 x1], .bool true]) ∧ Below w.heap.size w w') := by
    intro w; rw [hx0, hx1]; exact Handle_yes n w m0 m1
  have HM : Hid (∀ w : World, Calls Try.prog 24 #[.agg #[.int .i64 x0, .int .i64 x1]] w fun e w' => e = .returned (.int .u64 n) ∧ Below w.heap.size w w') := by
    intro w
    have h := PutHandle_any x0 x1 w
    rw [show putHandle x0 x1 = n from by unfold putHandle; rw [fitI_in x0 65535 (by omega) (by omega), fitI_in x1 65535 (by omega) (by omega)]; omega] at h
    exact h
  clear hx0 hx1
  have ha5 : a < 0 ∨ 65536 ≤ a ∨ (0 ≤ a ∧ a < 65536 ∧ b < 1) ∨ (0 ≤ a ∧ a < 65536 ∧ 65535 < b) ∨ (0 ≤ a ∧ a < 65536 ∧ 1 ≤ b ∧ b ≤ 65535) := by omega
  rcases ha5 with c0 | c0 | ⟨c0, c1, c2⟩ | ⟨c0, c1, c2⟩ | ⟨c0, c1, c2, c3⟩
  rotate_right
  · obtain ⟨e0, e1, rfl⟩ := hq.out ⟨c0, c1, c2, c3⟩
    obtain rfl := e0.symm
    obtain rfl := e1.symm
    clear hq e0 e1
    go_enter Try.func3, Try.ntmps3
    go_wp2_with fail
    refine (HP.out _).mono ?_
    rintro e w9 ⟨rfl, hb⟩
    replace HS := HS.step hb
    clear hb
    go_wp2_with fail
    refine (HH.out _).mono ?_
    rintro e w8 ⟨rfl, hb⟩
    replace HS := HS.step hb
    clear hb
    go_wp2_with fail
    refine (HN.out _).mono ?_
    rintro e w7 ⟨rfl, hb⟩
    have HQ := (HS.more #[.int .i64 a, .int .i64 b] 23).step hb
    replace HS := (HS.step (below_new _ _)).step hb
    clear hb
    go_wp2_with fail
    refine (awake1_any _).mono ?_
    rintro e w6 ⟨rfl, hb⟩
    have HX := (HS.more #[.int .i64 x0, .int .i64 x1] 23).step hb
    replace HS := (HS.step (below_new _ _)).step hb
    replace HQ := (HQ.step (below_new _ _)).step hb
    clear hb
    have k0 := HS.cells 0
    have k1 := HS.cells 1
    have l0 := HS.lt
    have k2 := HQ.cells 0
    have k3 := HQ.cells 1
    have l1 := HQ.lt
    have k4 := HX.cells 0
    have k5 := HX.cells 1
    have l2 := HX.lt
    go_wp2_with fail
    refine (Put2_at a b p 16 16 _ _ (by omega) (by omega) (by omega) ha hb1 HU rfl).mono ?_
    rintro e w5 ⟨rfl, hw⟩
    obtain rfl := hw.symm
    clear hw
    go_wp2_with fail
    refine (HM.out _).mono ?_
    rintro e w4 ⟨rfl, hb⟩
    go_wp2
    go_ret
    exact ⟨rfl, ((HS.below.alloc (by omega) _).alloc (by simp; omega) _).trans (hb.mono (by simp; omega))⟩
  all_goals
    clear hq
    go_enter Try.func3, Try.ntmps3
    go_wp2_with fail
    refine (HP.out _).mono ?_
    rintro e w9 ⟨rfl, hb⟩
    replace HS := HS.step hb
    clear hb
    go_wp2_with fail
    refine (HH.out _).mono ?_
    rintro e w8 ⟨rfl, hb⟩
    replace HS := HS.step hb
    clear hb
    go_wp2_with fail
    refine (HN.out _).mono ?_
    rintro e w7 ⟨rfl, hb⟩
    have HQ := (HS.more #[.int .i64 q0, .int .i64 q1] 23).step hb
    replace HS := (HS.step (below_new _ _)).step hb
    clear hb
    go_wp2_with fail
    refine (awake1_any _).mono ?_
    rintro e w6 ⟨rfl, hb⟩
    have HX := (HS.more #[.int .i64 x0, .int .i64 x1] 23).step hb
    replace HS := (HS.step (below_new _ _)).step hb
    replace HQ := (HQ.step (below_new _ _)).step hb
    clear hb
    have k0 := HS.cells 0
    have k1 := HS.cells 1
    have l0 := HS.lt
    have k2 := HQ.cells 0
    have k3 := HQ.cells 1
    have l1 := HQ.lt
    have k4 := HX.cells 0
    have k5 := HX.cells 1
    have l2 := HX.lt
    go_wp2_with fail
    refine (Put2_at a b p 16 16 _ _ (by omega) (by omega) (by omega) ha hb1 HU rfl).mono ?_
    rintro e w5 ⟨rfl, hw⟩
    obtain rfl := hw.symm
    clear hw
    go_wp2_with fail
    refine (HM.out _).mono ?_
    rintro e w4 ⟨rfl, hb⟩
    go_wp2
    go_ret
    exact ⟨rfl, ((HS.below.alloc (by omega) _).alloc (by simp; omega) _).trans (hb.mono (by simp; omega))⟩
set_option maxHeartbeats 16000000 in
set_option maxRecDepth 100000 in
theorem WordHandles_c (a b n : Int) (w : World) (ha0 : -9223372036854775808 ≤ a) (ha : a ≤ 9223372036854775807) (hb0 : -9223372036854775808 ≤ b) (hb1 : b ≤ 9223372036854775807) (h0 : 0 ≤ n) (h1 : n < 18446744073709551616) (m0 : 4294967296 ≤ n) :
    Calls Try.prog 3 #[.agg #[.int .i64 a, .int .i64 b], .int .u64 n] w fun e w' => e = .returned (.bool true) ∧ Below w.heap.size w w' := by
  have f0 := fitI_bd a 65535 (by omega)
  have f1 := fitI_bd b 65535 (by omega)
  obtain ⟨p, hp⟩ : ∃ p : Int, Hid (p = fitI a 65535 + fitI b 65535 * 65536) := ⟨_, rfl⟩
  have HP : Hid (∀ w : World, Calls Try.prog 24 #[.agg #[.int .i64 a, .int .i64 b]] w fun e w' => e = .returned (.int .u64 p) ∧ Below w.heap.size w w') := by
    intro w; rw [hp.out]; exact PutHandle_any a b w
  have HU : Hid (putTo (l2 a b) (n2 16 16) 2 = p) := by
    show _ = _
    rw [hp.out]; simp [putTo, bitsTo, l2, n2]
  obtain ⟨q0, q1, is, hq, HH⟩ : ∃ (q0 q1 : Int) (is : Bool), Hid (0 ≤ a ∧ a < 65536 ∧ 1 ≤ b ∧ b ≤ 65535 → q0 = a ∧ q1 = b ∧ is = true) ∧ Hid (∀ w : World, Calls Try.prog 25 #[.int .u64 p] w fun e w' => e = .returned (.tuple #[.agg #[.int .i64 q0, .int .i64 q1], .bool is]) ∧ Below w.heap.size w w') := by
    by_cases hc : 65536 ≤ p
    · refine ⟨_, _, true, ?_, fun w => Handle_yes p w hc (by have := hp.out; omega)⟩
      rintro ⟨c0, c1, c2, c3⟩
      have h := hp.out
      rw [fitI_in a 65535 c0 (by omega), fitI_in b 65535 (by omega) c3] at h
      exact ⟨by omega, by omega, rfl⟩
    · refine ⟨0, 0, false, ?_, fun w => Handle_no p w (by have := hp.out; omega) (by omega) (by omega)⟩
      rintro ⟨c0, c1, c2, c3⟩
      have h := hp.out
      rw [fitI_in a 65535 c0 (by omega), fitI_in b 65535 (by omega) c3] at h
      omega
  clear hp f0 f1
  have HS := BoxN.new w #[.int .i64 a, .int .i64 b] 23
  have HN : Hid (∀ w : World, Calls Try.prog 25 #[.int .u64 n] w fun e w' => e = .returned (.tuple #[.agg #[.int .i64 0, .int .i64 0], .bool false]) ∧ Below w.heap.size w w') := fun w => Handle_no n w h0 h1 (.inr m0)
  have ha5 : a < 0 ∨ 65536 ≤ a ∨ (0 ≤ a ∧ a < 65536 ∧ b < 1) ∨ (0 ≤ a ∧ a < 65536 ∧ 65535 < b) ∨ (0 ≤ a ∧ a < 65536 ∧ 1 ≤ b ∧ b ≤ 65535) := by omega
  rcases ha5 with c0 | c0 | ⟨c0, c1, c2⟩ | ⟨c0, c1, c2⟩ | ⟨c0, c1, c2, c3⟩
  rotate_right
  · obtain ⟨e0, e1, rfl⟩ := hq.out ⟨c0, c1, c2, c3⟩
    obtain rfl := e0.symm
    obtain rfl := e1.symm
    clear hq e0 e1
    go_enter Try.func3, Try.ntmps3
    go_wp2_with fail
    refine (HP.out _).mono ?_
    rintro e w9 ⟨rfl, hb⟩
    replace HS := HS.step hb
    clear hb
    go_wp2_with fail
    refine (HH.out _).mono ?_
    rintro e w8 ⟨rfl, hb⟩
    replace HS := HS.step hb
    clear hb
    go_wp2_with fail
    refine (HN.out _).mono ?_
    rintro e w7 ⟨rfl, hb⟩
    have HQ := (HS.more #[.int .i64 a, .int .i64 b] 23).step hb
    replace HS := (HS.step (below_new _ _)).step hb
    clear hb
    go_wp2_with fail
    refine (awake1_any _).mono ?_
    rintro e w6 ⟨rfl, hb⟩
    have HX := (HS.more #[.int .i64 0, .int .i64 0] 23).step hb
    replace HS := (HS.step (below_new _ _)).step hb
    replace HQ := (HQ.step (below_new _ _)).step hb
    clear hb
    have k0 := HS.cells 0
    have k1 := HS.cells 1
    have l0 := HS.lt
    have k2 := HQ.cells 0
    have k3 := HQ.cells 1
    have l1 := HQ.lt
    have k4 := HX.cells 0
    have k5 := HX.cells 1
    have l2 := HX.lt
    go_wp2_with fail
    refine (Put2_at a b p 16 16 _ _ (by omega) (by omega) (by omega) ha hb1 HU rfl).mono ?_
    rintro e w5 ⟨rfl, hw⟩
    obtain rfl := hw.symm
    clear hw
    go_wp2
    go_ret
    exact ⟨rfl, (HS.below.alloc (by omega) _).alloc (by simp; omega) _⟩
  all_goals
    clear hq
    go_enter Try.func3, Try.ntmps3
    go_wp2_with fail
    refine (HP.out _).mono ?_
    rintro e w9 ⟨rfl, hb⟩
    replace HS := HS.step hb
    clear hb
    go_wp2_with fail
    refine (HH.out _).mono ?_
    rintro e w8 ⟨rfl, hb⟩
    replace HS := HS.step hb
    clear hb
    go_wp2_with fail
    refine (HN.out _).mono ?_
    rintro e w7 ⟨rfl, hb⟩
    have HQ := (HS.more #[.int .i64 q0, .int .i64 q1] 23).step hb
    replace HS := (HS.step (below_new _ _)).step hb
    clear hb
    go_wp2_with fail
    refine (awake1_any _).mono ?_
    rintro e w6 ⟨rfl, hb⟩
    have HX := (HS.more #[.int .i64 0, .int .i64 0] 23).step hb
    replace HS := (HS.step (below_new _ _)).step hb
    replace HQ := (HQ.step (below_new _ _)).step hb
    clear hb
    have k0 := HS.cells 0
    have k1 := HS.cells 1
    have l0 := HS.lt
    have k2 := HQ.cells 0
    have k3 := HQ.cells 1
    have l1 := HQ.lt
    have k4 := HX.cells 0
    have k5 := HX.cells 1
    have l2 := HX.lt
    go_wp2_with fail
    refine (Put2_at a b p 16 16 _ _ (by omega) (by omega) (by omega) ha hb1 HU rfl).mono ?_
    rintro e w5 ⟨rfl, hw⟩
    obtain rfl := hw.symm
    clear hw
    go_wp2
    go_ret
    exact ⟨rfl, (HS.below.alloc (by omega) _).alloc (by simp; omega) _⟩
theorem WordHandles_any (a b n : Int) (w : World) (ha0 : -9223372036854775808 ≤ a) (ha : a ≤ 9223372036854775807) (hb0 : -9223372036854775808 ≤ b) (hb : b ≤ 9223372036854775807) (h0 : 0 ≤ n) (h1 : n < 18446744073709551616) :
    Calls Try.prog 3 #[.agg #[.int .i64 a, .int .i64 b], .int .u64 n] w fun e w' => e = .returned (.bool true) ∧ Below w.heap.size w w' := by
  rcases Int.lt_or_le n 65536 with m0 | m0
  · exact WordHandles_a a b n w ha0 ha hb0 hb h0 h1 m0
  · rcases Int.lt_or_le n 4294967296 with m1 | m1
    · exact WordHandles_b a b n w ha0 ha hb0 hb h0 h1 m0 m1
    · exact WordHandles_c a b n w ha0 ha hb0 hb h0 h1 m1
end Go.Proofs.Ytnpjfdiapoghnaa
