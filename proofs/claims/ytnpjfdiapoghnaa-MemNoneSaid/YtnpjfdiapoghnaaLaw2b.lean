/- Layer 2's statement MemNone: the walk. -/
import Derived.Test.YtnpjfdiapoghnaaLaw2a
import Derived.Laws.StructEq
import Derived.Test.YtnpjfdiapoghnaaLaw1f
namespace Go.Proofs.Ytnpjfdiapoghnaa
open Go Go.RowKit

theorem eqTouch (d : Nat) (w : World) (x0 x1 y0 y1 : Int) (x y : Bool) :
    (Op.equalIn (d + 2) 79 (.agg #[.int .i64 x0, .int .i64 x1, .bool x]) (.agg #[.int .i64 y0, .int .i64 y1, .bool y])).run Try.prog w = .ok (x0 == y0 && (x1 == y1 && x == y)) w := by
  refine eqs_of Try.underlying79 (by kernel_rfl) ?_
  refine eqf_more (by rfl) (by go_simp; rfl) (by go_simp; rfl) (by go_simp) ?_
  refine eqf_more (by rfl) (by go_simp; rfl) (by go_simp; rfl) (by go_simp) ?_
  exact eqf_end (by rfl) (by go_simp) (by go_simp) (run_equalIn_bool w _ _ _ _ Try.underlying4)

attribute [local go_sem high] eqTouch
set_option maxHeartbeats 4000000 in
set_option maxRecDepth 100000 in
theorem MemNone_any (n a : Int) (W : World) :
    Calls Try.prog 16 #[.int .i64 n, .int .i64 a] W fun e W' => e = .returned (.bool true) ∧ Below W.heap.size W W' := by
  have hb := and_i64_bd 12 n 4095 (by decide) (by omega)
  obtain ⟨k, ek⟩ := Int.eq_ofNat_of_zero_le hb.1
  have hk : (k : Int) ≤ 4095 := by rw [← ek]; exact hb.2
  clear hb
  by_cases h0 : k = 0
  · subst h0
    replace ek : bits .and .i64 n 4095 = 0 := ek
    go_enter Try.func16, Try.ntmps16
    go_wp2_with (first
      | (go_at_call 53; refine (By_nil _ _).mono ?_; rintro e w9 ⟨rfl, hw⟩; obtain rfl := hw.symm; clear hw)
      | (go_at_call 52; refine (Load_nil _ _).mono ?_; rintro e w9 ⟨rfl, hw⟩; obtain rfl := hw.symm; clear hw)
      | (go_at_call 50; refine (Cas_nil _ _ _ _).mono ?_; rintro e w9 ⟨rfl, hw⟩; obtain rfl := hw.symm; clear hw)
      | (go_at_call 47; refine (Add_nil _ _ _).mono ?_; rintro e w9 ⟨rfl, hw⟩; obtain rfl := hw.symm; clear hw))
    refine (New_no 0 _ (.inl (by omega))).mono ?_
    rintro e w9 ⟨rfl, hw⟩; obtain rfl := hw.symm; clear hw
    go_wp2_with fail
    refine (New_no 1048577 _ (.inr (by omega))).mono ?_
    rintro e w9 ⟨rfl, hw⟩; obtain rfl := hw.symm; clear hw
    go_wp2_with fail
    refine (New_no _ _ (.inl (by omega))).mono ?_
    rintro e w9 ⟨rfl, hw⟩; obtain rfl := hw.symm; clear hw
    go_wp2_with fail
    refine (awake2_any _).mono ?_
    rintro e w8 ⟨rfl, hb8⟩
    go_wp2_with (first
      | (go_at_call 51; refine (Store_nil _ _ _).mono ?_; rintro e w9 ⟨rfl, hw⟩; obtain rfl := hw.symm; clear hw)
      | (go_at_call 57; refine (Len_nil _).mono ?_; rintro e w9 ⟨rfl, hw⟩; obtain rfl := hw.symm; clear hw)
      | (go_at_call 54; refine (Steps_nil _).mono ?_; rintro e w9 ⟨rfl, hw⟩; obtain rfl := hw.symm; clear hw)
      | (go_at_call 55; refine (Last_nil _).mono ?_; rintro e w7 ⟨rfl, hb7⟩)
      | (go_at_call 49; refine (Peek_nil _ _).mono ?_; rintro e w9 ⟨rfl, hw⟩; obtain rfl := hw.symm; clear hw)
      | (go_at_call 56; refine (When_nil _ _).mono ?_; rintro e w9 ⟨rfl, hw⟩; obtain rfl := hw.symm; clear hw))
    go_ret
    exact ⟨rfl, hb8.trans (hb7.mono hb8.size)⟩
  · have hk1 : (1 : Int) ≤ (k : Int) := by omega
    go_enter Try.func16, Try.ntmps16
    go_wp2_with (first
      | (go_at_call 53; refine (By_nil _ _).mono ?_; rintro e w9 ⟨rfl, hw⟩; obtain rfl := hw.symm; clear hw)
      | (go_at_call 52; refine (Load_nil _ _).mono ?_; rintro e w9 ⟨rfl, hw⟩; obtain rfl := hw.symm; clear hw)
      | (go_at_call 50; refine (Cas_nil _ _ _ _).mono ?_; rintro e w9 ⟨rfl, hw⟩; obtain rfl := hw.symm; clear hw)
      | (go_at_call 47; refine (Add_nil _ _ _).mono ?_; rintro e w9 ⟨rfl, hw⟩; obtain rfl := hw.symm; clear hw))
    refine (New_yes k _ (by omega) (by omega)).mono ?_
    rintro e w7 ⟨g, gw, gh, rfl, hM1, hB, b0, b1, b2⟩
    clear hM1
    go_wp2_with fail
    refine (New_no 1048577 _ (.inr (by omega))).mono ?_
    rintro e w9 ⟨rfl, hw⟩; obtain rfl := hw.symm; clear hw
    go_wp2_with fail
    refine (New_no _ _ (.inl (by omega))).mono ?_
    rintro e w9 ⟨rfl, hw⟩; obtain rfl := hw.symm; clear hw
    go_wp2_with fail
    refine (awake2_any _).mono ?_
    rintro e w8 ⟨rfl, hb8⟩
    go_wp2_with (first
      | (go_at_call 51; refine (Store_nil _ _ _).mono ?_; rintro e w9 ⟨rfl, hw⟩; obtain rfl := hw.symm; clear hw)
      | (go_at_call 57; refine (Len_nil _).mono ?_; rintro e w9 ⟨rfl, hw⟩; obtain rfl := hw.symm; clear hw)
      | (go_at_call 54; refine (Steps_nil _).mono ?_; rintro e w9 ⟨rfl, hw⟩; obtain rfl := hw.symm; clear hw)
      | (go_at_call 55; refine (Last_nil _).mono ?_; rintro e w6 ⟨rfl, hb7⟩)
      | (go_at_call 49; refine (Peek_nil _ _).mono ?_; rintro e w9 ⟨rfl, hw⟩; obtain rfl := hw.symm; clear hw)
      | (go_at_call 56; refine (When_nil _ _).mono ?_; rintro e w9 ⟨rfl, hw⟩; obtain rfl := hw.symm; clear hw))
    go_ret
    have s1 := hB.size
    have s2 := hb8.size
    exact ⟨rfl, (hB.trans (hb8.mono s1)).trans (hb7.mono (by omega))⟩
end Go.Proofs.Ytnpjfdiapoghnaa
