/- Layer 1's statements WordChunks and WordTops: the walks. -/
import Derived.Test.YtnpjfdiapoghnaaLaw1b
namespace Go.Proofs.Ytnpjfdiapoghnaa
open Go Go.RowKit

theorem putChunk_bd (a b c d : Int) : 0 ≤ putChunk a b c d ∧ putChunk a b c d < 18446744073709551616 := by
  have b0 := fitI_bd a 3 (by omega)
  have b1 := fitI_bd b 63 (by omega)
  have b2 := fitI_bd c 1048575 (by omega)
  have b3 := fitI_bd d 68719476735 (by omega)
  unfold putChunk; omega
theorem Chunk_at (n y0 y1 y2 y3 : Int) (w : World) (h : Hid (0 ≤ n ∧ n < 18446744073709551616 ∧ y0 = n % 4 ∧ y1 = n / 4 % 64 ∧ y2 = n / 256 % 1048576 ∧ y3 = n / 268435456 % 68719476736)) :
    Calls Try.prog 36 #[.int .u64 n] w fun e w' => e = .returned (.agg #[.int .i64 y0, .int .i64 y1, .int .i64 y2, .int .i64 y3]) ∧ Below w.heap.size w w' := by
  obtain ⟨h0, h1, rfl, rfl, rfl, rfl⟩ := h.out
  exact Chunk_any n w h0 h1
theorem GetChunk_at (n y0 y1 y2 y3 : Int) (w : World) (h : Hid (0 ≤ n ∧ n < 18446744073709551616 ∧ y0 = n % 4 ∧ y1 = n / 4 % 64 ∧ y2 = n / 256 % 1048576 ∧ y3 = n / 268435456 % 68719476736)) :
    Calls Try.prog 37 #[.int .u64 n] w fun e w' => e = .returned (.agg #[.int .i64 y0, .int .i64 y1, .int .i64 y2, .int .i64 y3]) ∧ Below w.heap.size w w' := by
  obtain ⟨h0, h1, rfl, rfl, rfl, rfl⟩ := h.out
  exact GetChunk_any n w h0 h1

attribute [local go_sem high] eqChunk
set_option maxHeartbeats 1000000 in
set_option maxRecDepth 100000 in
theorem WordChunks_any (a b c d n : Int) (w : World) (ha : a ≤ 9223372036854775807) (hb : b ≤ 9223372036854775807) (hc : c ≤ 9223372036854775807) (hd : d ≤ 9223372036854775807) (h0 : 0 ≤ n) (h1 : n < 18446744073709551616) :
    Calls Try.prog 8 #[.agg #[.int .i64 a, .int .i64 b, .int .i64 c, .int .i64 d], .int .u64 n] w fun e w' => e = .returned (.bool true) ∧ Below w.heap.size w w' := by
  have hp := putChunk_bd a b c d
  obtain ⟨y0, y1, y2, y3, hy⟩ : ∃ y0 y1 y2 y3 : Int, Hid (0 ≤ n ∧ n < 18446744073709551616 ∧ y0 = n % 4 ∧ y1 = n / 4 % 64 ∧ y2 = n / 256 % 1048576 ∧ y3 = n / 268435456 % 68719476736) := ⟨_, _, _, _, h0, h1, rfl, rfl, rfl, rfl⟩
  have HP0 := fun w => PutChunk_any a b c d w
  have HR0 := fun w => RefChunk_any a b c d w ha hb hc hd
  generalize putChunk a b c d = p at *
  obtain ⟨z0, z1, z2, z3, hz⟩ : ∃ y0 y1 y2 y3 : Int, Hid (0 ≤ p ∧ p < 18446744073709551616 ∧ y0 = p % 4 ∧ y1 = p / 4 % 64 ∧ y2 = p / 256 % 1048576 ∧ y3 = p / 268435456 % 68719476736) := ⟨_, _, _, _, hp.1, hp.2, rfl, rfl, rfl, rfl⟩
  have HP := Lib.hid HP0
  have HR := Lib.hid HR0
  clear ha hb hc hd h0 h1 hp HP0 HR0
  have HS := Box4.new w a b c d 44
  go_enter Try.func8, Try.ntmps8
  go_wp2_with (first
        | (go_at_call 34; refine (HP.out _).mono ?_; rintro e w9 ⟨rfl, hb⟩; replace HS := HS.step hb; clear hb; have k0 := HS.c0; have k1 := HS.c1; have k2 := HS.c2; have k3 := HS.c3)
        | (go_at_call 26; refine (awake1_any _).mono ?_; rintro e w9 ⟨rfl, hb⟩; replace HS := HS.step hb; clear k0 k1 k2 k3 hb; have k0 := HS.c0; have k1 := HS.c1; have k2 := HS.c2; have k3 := HS.c3)
        | (go_at_call 35; refine (HR.out _).mono ?_; rintro e w9 ⟨rfl, hb⟩; replace HS := HS.step hb; clear hb)
        | (go_at_call_of 36 p; refine (Chunk_at p z0 z1 z2 z3 _ hz).mono ?_; rintro e w9 ⟨rfl, hb⟩; replace HS := HS.step hb; clear hb)
        | (go_at_call_of 36 n; refine (Chunk_at n y0 y1 y2 y3 _ hy).mono ?_; rintro e w9 ⟨rfl, hb⟩; replace HS := HS.step hb; clear hb)
        | (go_at_call_of 37 p; refine (GetChunk_at p z0 z1 z2 z3 _ hz).mono ?_; rintro e w9 ⟨rfl, hb⟩; replace HS := HS.step hb; clear hb)
        | (go_at_call_of 37 n; refine (GetChunk_at n y0 y1 y2 y3 _ hy).mono ?_; rintro e w9 ⟨rfl, hb⟩; replace HS := HS.step hb; clear hb))
  go_ret
  exact ⟨rfl, HS.below⟩

/-! ### WordTops -/
theorem row2 (w : World) (e : TypeId) (g : Nat) (l : Nat → Int) (hg : g = w.heap.size) : ∀ j, j < 2 → (w.alloc (.cells #[.int .i64 (l 0), .int .i64 (l 1)] e)).cell? ⟨g, j, none⟩ = some (.int .i64 (l j)) := by
  intro j hj
  rw [cell_new _ _ _ _ _ hg]
  match j, hj with
  | 0, _ => rfl
  | 1, _ => rfl
def l2 (a b : Int) : Nat → Int := fun j => [a, b].getD j 0
def n2 (a b : Nat) : Nat → Nat := fun j => [a, b].getD j 0
/-- What packing two numbers at a new row's head comes to. -/
theorem Put2_at (a b p : Int) (x y : Nat) (w w' : World) (hx : 1 ≤ x ∧ x < 64) (hy : 1 ≤ y ∧ y < 64) (hxy : x + y ≤ 64) (ha : a ≤ 9223372036854775807) (hb : b ≤ 9223372036854775807) (hp : Hid (putTo (l2 a b) (n2 x y) 2 = p))
    (hw : w' = (w.alloc (.cells #[.int .i64 a, .int .i64 b] 3)).alloc (.cells #[.int .i64 x, .int .i64 y] 3)) :
    Calls Try.prog 27 #[.slice (some ⟨w.heap.size, 0, none⟩) 2 2, .slice (some ⟨w.heap.size + 1, 0, none⟩) 2 2] w' fun e w1 => e = .returned (.int .u64 p) ∧ w1 = w' := by
  subst hw
  rw [← hp.out]
  refine Put_any w.heap.size (w.heap.size + 1) 2 (l2 a b) (n2 x y) _ (by omega) (by show 0 + x + y ≤ 64; omega) ?_ ?_ ?_ ?_
  · intro j hj
    exact cell_old _ _ _ _ _ (by simp) (row2 _ _ _ (l2 a b) rfl j hj)
  · intro j hj
    exact row2 _ _ _ (fun j => n2 x y j) (by simp) j hj
  · intro j hj
    match j, hj with
    | 0, _ => exact ha
    | 1, _ => exact hb
  · intro j hj
    match j, hj with
    | 0, _ => exact hx
    | 1, _ => exact hy

/-- The walk behind the cut of the slot. -/
theorem putTop_in (s n : Int) (h0 : -1 ≤ s) (h1 : s ≤ 65535) : putTop s n = (s + 1) + fitI n 68719476735 * 131072 := by
  unfold putTop
  rw [if_neg (by omega), fitI_in _ _ (by omega) (by omega)]
set_option maxHeartbeats 1000000 in
set_option maxRecDepth 100000 in
theorem WordTops_any (a n : Int) (w : World) (ha0 : -9223372036854775808 ≤ a) (ha : a ≤ 9223372036854775807) (hn0 : -9223372036854775808 ≤ n) (hn : n ≤ 9223372036854775807) :
    Calls Try.prog 7 #[.int .i64 a, .int .i64 n] w fun e w' => e = .returned (.bool true) ∧ Below w.heap.size w w' := by
  obtain ⟨s, t, hs0, hs1, ht, hs⟩ : ∃ s t : Int, -1 ≤ s ∧ s ≤ 65535 ∧ Hid (t = s + 1) ∧ ((a < -1 ∧ s = -1 ∧ t = 0) ∨ (-1 ≤ a ∧ a < 65536 ∧ s = a ∧ t = a + 1) ∨ (65536 ≤ a ∧ s = 65535 ∧ t = 65536)) := by
    by_cases h1 : a < -1
    · exact ⟨-1, 0, by omega, by omega, (by show _ = _; omega), .inl ⟨h1, rfl, rfl⟩⟩
    · by_cases h2 : a < 65536
      · exact ⟨a, a + 1, by omega, by omega, (by show _ = _; omega), .inr (.inl ⟨by omega, h2, rfl, rfl⟩)⟩
      · exact ⟨65535, 65536, by omega, by omega, (by show _ = _; omega), .inr (.inr ⟨by omega, rfl, rfl⟩)⟩
  have hf := fitI_bd n 68719476735 (by omega)
  obtain ⟨y, hy0, hy1, hy⟩ : ∃ y : Int, 0 ≤ y ∧ y ≤ 68719476735 ∧ Hid (fitI n 68719476735 = y) := ⟨_, hf.1, hf.2, rfl⟩
  clear hf
  obtain ⟨p, hp⟩ : ∃ p : Int, Hid (p = t + y * 131072) := ⟨_, rfl⟩
  have HP : Hid (∀ w, Calls Try.prog 32 #[.int .i64 s, .int .i64 n] w fun e w' => e = .returned (.int .u64 p) ∧ w' = w) := by
    intro w
    rw [hp.out, ht.out, ← hy.out, ← putTop_in s n hs0 hs1]
    exact PutTop_any s n w (by omega)
  have HT : Hid (∀ w, Calls Try.prog 33 #[.int .u64 p] w fun e w' => e = .returned (.tuple #[.int .i64 s, .int .i64 y]) ∧ w' = w) := by
    intro w
    rw [hp.out, ht.out]
    have h := Top_any (s + 1 + y * 131072) w (by omega) (by omega)
    rw [show (s + 1 + y * 131072) % 131072 - 1 = s from by omega, show (s + 1 + y * 131072) / 131072 % 68719476736 = y from by omega] at h
    exact h
  have HU : Hid (putTo (l2 t n) (n2 17 36) 2 = p) := by
    show _ = _
    rw [hp.out, ht.out, ← hy.out]
    simp [putTo, bitsTo, l2, n2]
    rw [fitI_in _ _ (by omega) (by omega)]
  have hyn : (n < 0 ∧ y = 0) ∨ (68719476735 < n ∧ y = 68719476735) ∨ (0 ≤ n ∧ n ≤ 68719476735 ∧ y = n) := by
    have h := hy.out
    unfold fitI at h
    by_cases c1 : n ≤ 0
    · rw [if_pos c1] at h; omega
    · rw [if_neg c1] at h
      by_cases c2 : n ≤ 68719476735
      · rw [if_pos c2] at h; omega
      · rw [if_neg c2] at h; omega
  have ht' : t ≤ 9223372036854775807 := by have := ht.out; omega
  clear hy hp ht hy0 hy1 hs0 hs1
  rcases hs with ⟨h1, rfl, rfl⟩ | ⟨h1, h2, rfl, rfl⟩ | ⟨h1, rfl, rfl⟩
  all_goals
    rcases hyn with ⟨c1, rfl⟩ | ⟨c1, rfl⟩ | ⟨c1, c2, rfl⟩
  all_goals
    go_enter Try.func7, Try.ntmps7
    go_wp2_with (first
        | (go_at_call 32; refine (HP.out _).mono ?_; rintro e w9 ⟨rfl, hw⟩; obtain rfl := hw.symm; clear hw)
        | (go_at_call 33; refine (HT.out _).mono ?_; rintro e w9 ⟨rfl, hw⟩; obtain rfl := hw.symm; clear hw)
        | (go_at_call 27; refine (Put2_at _ _ _ 17 36 _ _ (by omega) (by omega) (by omega) (by omega) (by omega) HU rfl).mono ?_; rintro e w9 ⟨rfl, hw⟩; obtain rfl := hw.symm; clear hw)
        | (go_at_call 26; refine (awake1_any _).mono ?_; rintro e w9 ⟨rfl, hb⟩))
    go_ret
    exact ⟨rfl, ((below_new _ _).alloc (by simp) _).trans (hb.mono (by simp; omega))⟩
end Go.Proofs.Ytnpjfdiapoghnaa
