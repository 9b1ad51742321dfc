/- Layer 1's statement WordSlots: the walk. -/
import Derived.Test.YtnpjfdiapoghnaaLaw1a
namespace Go.Proofs.Ytnpjfdiapoghnaa
open Go Go.RowKit

theorem putSlot_bd (a b c d : Int) : 0 ≤ putSlot a b c d ∧ putSlot a b c d < 18446744073709551616 := by
  have b0 := fitI_bd a 7 (by omega)
  have b1 := fitI_bd b 1048575 (by omega)
  have b2 := fitI_bd c 65535 (by omega)
  have b3 := fitI_bd d 4194303 (by omega)
  unfold putSlot; omega

theorem Slot_at (n y0 y1 y2 y3 : Int) (w : World) (h : Hid (0 ≤ n ∧ n < 18446744073709551616 ∧ y0 = n % 8 ∧ y1 = n / 8 % 1048576 ∧ y2 = n / 8388608 % 65536 ∧ y3 = n / 549755813888 % 4194304)) :
    Calls Try.prog 30 #[.int .u64 n] w fun e w' => e = .returned (.agg #[.int .i64 y0, .int .i64 y1, .int .i64 y2, .int .i64 y3]) ∧ Below w.heap.size w w' := by
  obtain ⟨h0, h1, rfl, rfl, rfl, rfl⟩ := h.out
  exact Slot_any n w h0 h1
theorem GetSlot_at (n y0 y1 y2 y3 : Int) (w : World) (h : Hid (0 ≤ n ∧ n < 18446744073709551616 ∧ y0 = n % 8 ∧ y1 = n / 8 % 1048576 ∧ y2 = n / 8388608 % 65536 ∧ y3 = n / 549755813888 % 4194304)) :
    Calls Try.prog 31 #[.int .u64 n] w fun e w' => e = .returned (.agg #[.int .i64 y0, .int .i64 y1, .int .i64 y2, .int .i64 y3]) ∧ Below w.heap.size w w' := by
  obtain ⟨h0, h1, rfl, rfl, rfl, rfl⟩ := h.out
  exact GetSlot_any n w h0 h1

attribute [local go_sem high] eqSlot
/-- A box of four whole numbers, and nothing that was there ahead of it has turned. -/
structure Box4 (w w' : World) (a b c d : Int) : Prop where
  c0 : w'.cell? ⟨w.heap.size, 0, none⟩ = some (.int .i64 a)
  c1 : w'.cell? ⟨w.heap.size, 1, none⟩ = some (.int .i64 b)
  c2 : w'.cell? ⟨w.heap.size, 2, none⟩ = some (.int .i64 c)
  c3 : w'.cell? ⟨w.heap.size, 3, none⟩ = some (.int .i64 d)
  below : Below w.heap.size w w'
  size : w.heap.size < w'.heap.size
theorem Box4.step {w w1 w2 : World} {a b c d : Int} (h : Box4 w w1 a b c d) (hb : Below w1.heap.size w1 w2) : Box4 w w2 a b c d :=
  ⟨(hb.cell h.size).trans h.c0, (hb.cell h.size).trans h.c1, (hb.cell h.size).trans h.c2, (hb.cell h.size).trans h.c3, h.below.trans (hb.mono (Nat.le_of_lt h.size)), Nat.lt_of_lt_of_le h.size hb.size⟩
theorem Box4.drew {w w1 : World} {a b c d : Int} (h : Box4 w w1 a b c d) : Box4 w w1.drew a b c d := ⟨h.c0, h.c1, h.c2, h.c3, h.below.drew, h.size⟩
theorem Box4.new (w : World) (a b c d : Int) (t : TypeId) : Box4 w (w.alloc (.cells #[.int .i64 a, .int .i64 b, .int .i64 c, .int .i64 d] t)) a b c d :=
  ⟨cell_new _ _ _ _ _ rfl, cell_new _ _ _ _ _ rfl, cell_new _ _ _ _ _ rfl, cell_new _ _ _ _ _ rfl, below_new _ _, by simp⟩

set_option maxHeartbeats 1000000 in
set_option maxRecDepth 100000 in
theorem WordSlots_any (a b c d n : Int) (w : World) (ha : a ≤ 9223372036854775807) (hb : b ≤ 9223372036854775807) (hc : c ≤ 9223372036854775807) (hd : d ≤ 9223372036854775807) (h0 : 0 ≤ n) (h1 : n < 18446744073709551616) :
    Calls Try.prog 4 #[.agg #[.int .i64 a, .int .i64 b, .int .i64 c, .int .i64 d], .int .u64 n] w fun e w' => e = .returned (.bool true) ∧ Below w.heap.size w w' := by
  have hp := putSlot_bd a b c d
  obtain ⟨y0, y1, y2, y3, hy⟩ : ∃ y0 y1 y2 y3 : Int, Hid (0 ≤ n ∧ n < 18446744073709551616 ∧ y0 = n % 8 ∧ y1 = n / 8 % 1048576 ∧ y2 = n / 8388608 % 65536 ∧ y3 = n / 549755813888 % 4194304) := ⟨_, _, _, _, h0, h1, rfl, rfl, rfl, rfl⟩
  have HP := fun w => PutSlot_any a b c d w
  have HR := fun w => RefSlot_any a b c d w ha hb hc hd
  generalize putSlot a b c d = p at *
  obtain ⟨z0, z1, z2, z3, hz⟩ : ∃ y0 y1 y2 y3 : Int, Hid (0 ≤ p ∧ p < 18446744073709551616 ∧ y0 = p % 8 ∧ y1 = p / 8 % 1048576 ∧ y2 = p / 8388608 % 65536 ∧ y3 = p / 549755813888 % 4194304) := ⟨_, _, _, _, hp.1, hp.2, rfl, rfl, rfl, rfl⟩
  have HP := Lib.hid HP
  have HR := Lib.hid HR
  clear ha hb hc hd h0 h1 hp
  rename_i HP0 HR0
  clear HP0 HR0
  have HS := Box4.new w a b c d 33
  cases hq : (z0 == a && (z1 == b && (z2 == c && z3 == d)))
  · have hq1 : (!(z0 == a) || (!(z1 == b) || (!(z2 == c) || !(z3 == d)))) = true := by rw [← Bool.not_and, ← Bool.not_and, ← Bool.not_and, hq]; rfl
    have hq2 : (z0 != a || (z1 != b || (z2 != c || z3 != d))) = true := hq1
    go_enter Try.func4, Try.ntmps4
    go_wp2_with (first | (go_at_call 28; refine (HP.out _).mono ?_; rintro e w1 ⟨rfl, hb1⟩))
    replace HS := (HS.step hb1).drew
    have k0 := HS.c0
    have k1 := HS.c1
    have k2 := HS.c2
    have k3 := HS.c3
    clear hb1
    (first | (go_region_with (first
        | (go_at_call 26; refine (awake1_any _).mono ?_; rintro e w9 ⟨rfl, hb⟩; replace HS := HS.step hb; clear k0 k1 k2 k3 hb; have k0 := HS.c0; have k1 := HS.c1; have k2 := HS.c2; have k3 := HS.c3)
        | (go_at_call 29; refine (HR.out _).mono ?_; rintro e w9 ⟨rfl, hb⟩; replace HS := HS.step hb; clear k0 k1 k2 k3 hb; have k0 := HS.c0; have k1 := HS.c1; have k2 := HS.c2; have k3 := HS.c3)
        | (go_at_call_of 30 p; refine (Slot_at p z0 z1 z2 z3 _ hz).mono ?_; rintro e w9 ⟨rfl, hb⟩; replace HS := HS.step hb; clear k0 k1 k2 k3 hb; have k0 := HS.c0; have k1 := HS.c1; have k2 := HS.c2; have k3 := HS.c3)
        | (go_at_call_of 30 n; refine (Slot_at n y0 y1 y2 y3 _ hy).mono ?_; rintro e w9 ⟨rfl, hb⟩; replace HS := HS.step hb; clear k0 k1 k2 k3 hb; have k0 := HS.c0; have k1 := HS.c1; have k2 := HS.c2; have k3 := HS.c3)
        | (go_at_call_of 31 p; refine (GetSlot_at p z0 z1 z2 z3 _ hz).mono ?_; rintro e w9 ⟨rfl, hb⟩; replace HS := HS.step hb; clear k0 k1 k2 k3 hb; have k0 := HS.c0; have k1 := HS.c1; have k2 := HS.c2; have k3 := HS.c3)
        | (go_at_call_of 31 n; refine (GetSlot_at n y0 y1 y2 y3 _ hy).mono ?_; rintro e w9 ⟨rfl, hb⟩; replace HS := HS.step hb; clear k0 k1 k2 k3 hb; have k0 := HS.c0; have k1 := HS.c1; have k2 := HS.c2; have k3 := HS.c3))) | fail)
    all_goals go_wp2
    all_goals go_ret
    all_goals exact ⟨rfl, HS.below⟩
  · have hq1 : (!(z0 == a) || (!(z1 == b) || (!(z2 == c) || !(z3 == d)))) = false := by rw [← Bool.not_and, ← Bool.not_and, ← Bool.not_and, hq]; rfl
    have hq2 : (z0 != a || (z1 != b || (z2 != c || z3 != d))) = false := hq1
    go_enter Try.func4, Try.ntmps4
    go_wp2_with (first | (go_at_call 28; refine (HP.out _).mono ?_; rintro e w1 ⟨rfl, hb1⟩))
    replace HS := HS.step hb1
    have k0 := HS.c0
    have k1 := HS.c1
    have k2 := HS.c2
    have k3 := HS.c3
    have hB1 := HS.below.drew
    have hz1 := HS.size
    clear hb1 HS
    (first | (go_region_held3 (fun w' => w'.cell? ⟨w.heap.size, 0, none⟩ = some (.int .i64 a) ∧ w'.cell? ⟨w.heap.size, 1, none⟩ = some (.int .i64 b) ∧ w'.cell? ⟨w.heap.size, 2, none⟩ = some (.int .i64 c) ∧ w'.cell? ⟨w.heap.size, 3, none⟩ = some (.int .i64 d) ∧ Below w.heap.size w w' ∧ w.heap.size < w'.heap.size)
      (first
        | exact ⟨k0, k1, k2, k3, hB1, hz1⟩
        | (go_split_ands
           refine ⟨(hb.cell (by assumption)).trans (by assumption), (hb.cell (by assumption)).trans (by assumption), (hb.cell (by assumption)).trans (by assumption), (hb.cell (by assumption)).trans (by assumption), Below.trans (by assumption) (hb.mono (by omega)), Nat.lt_of_lt_of_le (by assumption) hb.size⟩))
      (first
        | (go_at_call 26; refine (awake1_any _).mono ?_; rintro e w9 ⟨rfl, hb⟩)
        | (go_at_call 29; refine (HR.out _).mono ?_; rintro e w9 ⟨rfl, hb⟩)
        | (go_at_call_of 30 p; refine (Slot_at p z0 z1 z2 z3 _ hz).mono ?_; rintro e w9 ⟨rfl, hb⟩)
        | (go_at_call_of 30 n; refine (Slot_at n y0 y1 y2 y3 _ hy).mono ?_; rintro e w9 ⟨rfl, hb⟩)
        | (go_at_call_of 31 p; refine (GetSlot_at p z0 z1 z2 z3 _ hz).mono ?_; rintro e w9 ⟨rfl, hb⟩)
        | (go_at_call_of 31 n; refine (GetSlot_at n y0 y1 y2 y3 _ hy).mono ?_; rintro e w9 ⟨rfl, hb⟩))) | fail)
    all_goals go_wp2
    all_goals go_ret
    all_goals (try go_split_ands)
    all_goals exact ⟨rfl, by assumption⟩
end Go.Proofs.Ytnpjfdiapoghnaa
