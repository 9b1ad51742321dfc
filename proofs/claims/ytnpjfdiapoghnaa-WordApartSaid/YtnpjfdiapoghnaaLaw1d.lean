/- Layer 1's statements WordHeads and WordCells: the walks. -/
import Derived.Test.YtnpjfdiapoghnaaLaw1a
namespace Go.Proofs.Ytnpjfdiapoghnaa
open Go Go.RowKit

/-- A box that this call made: its cells; and nothing that was there ahead of the call has turned. -/
structure BoxN (w w' : World) (g : Nat) (cs : Array Value) : Prop where
  cells : ∀ j, w'.cell? ⟨g, j, none⟩ = cs[j]?
  free : ∀ j, w'.frozen? ⟨g, j, none⟩ = false
  at_ : w.heap.size ≤ g
  lt : g < w'.heap.size
  below : Below w.heap.size w w'
theorem BoxN.step {w w1 w2 : World} {g : Nat} {cs : Array Value} (h : BoxN w w1 g cs) (hb : Below w1.heap.size w1 w2) : BoxN w w2 g cs :=
  ⟨fun j => (hb.cell h.lt).trans (h.cells j), fun j => (hb.frozen h.lt).trans (h.free j), h.at_, Nat.lt_of_lt_of_le h.lt hb.size, h.below.trans (hb.mono (by have := h.at_; have := h.lt; omega))⟩
theorem BoxN.drew {w w1 : World} {g : Nat} {cs : Array Value} (h : BoxN w w1 g cs) : BoxN w w1.drew g cs := ⟨h.cells, h.free, h.at_, h.lt, h.below.drew⟩
theorem BoxN.new (w : World) (cs : Array Value) (t : TypeId) : BoxN w (w.alloc (.cells cs t)) w.heap.size cs :=
  ⟨fun j => cell_new _ _ _ _ _ rfl, fun j => World.frozen?_alloc_at _ _ _ _ (by simp), Nat.le_refl _, by simp, below_new _ _⟩

theorem putHead_bd (a b c d : Int) (f : Bool) : 0 ≤ putHead a b c d f ∧ putHead a b c d f < 18446744073709551616 := by
  have b0 := fitI_bd a 3 (by omega)
  have b1 := fitI_bd b 65535 (by omega)
  have b2 := fitI_bd c 65535 (by omega)
  have b3 := fitI_bd d 65535 (by omega)
  unfold putHead bit; cases f <;> simp <;> omega
theorem Head_at (n y0 y1 y2 y3 : Int) (y4 : Bool) (w : World) (h : Hid (0 ≤ n ∧ n < 18446744073709551616 ∧ y0 = n % 4 ∧ y1 = n / 4 % 65536 ∧ y2 = n / 262144 % 65536 ∧ y3 = n / 17179869184 % 65536 ∧ y4 = (n / 1125899906842624 % 2 == 1))) :
    Calls Try.prog 41 #[.int .u64 n] w fun e w' => e = .returned (.agg #[.int .i64 y0, .int .i64 y1, .int .i64 y2, .int .i64 y3, .bool y4]) ∧ Below w.heap.size w w' := by
  obtain ⟨h0, h1, rfl, rfl, rfl, rfl, rfl⟩ := h.out
  exact Head_any n w h0 h1
theorem GetHead_at (n y0 y1 y2 y3 : Int) (y4 : Bool) (w : World) (h : Hid (0 ≤ n ∧ n < 18446744073709551616 ∧ y0 = n % 4 ∧ y1 = n / 4 % 65536 ∧ y2 = n / 262144 % 65536 ∧ y3 = n / 17179869184 % 65536 ∧ y4 = (n / 1125899906842624 % 2 == 1))) :
    Calls Try.prog 38 #[.int .u64 n] w fun e w' => e = .returned (.agg #[.int .i64 y0, .int .i64 y1, .int .i64 y2, .int .i64 y3, .bool y4]) ∧ Below w.heap.size w w' := by
  obtain ⟨h0, h1, rfl, rfl, rfl, rfl, rfl⟩ := h.out
  exact GetHead_any n w h0 h1

attribute [local go_sem high] eqHead eqCell
set_option maxHeartbeats 1000000 in
set_option maxRecDepth 100000 in
theorem WordHeads_any (a b c d : Int) (f : Bool) (n : Int) (w : World) (ha : a ≤ 9223372036854775807) (hb : b ≤ 9223372036854775807) (hc : c ≤ 9223372036854775807) (hd : d ≤ 9223372036854775807) (h0 : 0 ≤ n) (h1 : n < 18446744073709551616) :
    Calls Try.prog 10 #[.agg #[.int .i64 a, .int .i64 b, .int .i64 c, .int .i64 d, .bool f], .int .u64 n] w fun e w' => e = .returned (.bool true) ∧ Below w.heap.size w w' := by
  have hp := putHead_bd a b c d f
  obtain ⟨y0, y1, y2, y3, y4, hy⟩ : ∃ (y0 y1 y2 y3 : Int) (y4 : Bool), Hid (0 ≤ n ∧ n < 18446744073709551616 ∧ y0 = n % 4 ∧ y1 = n / 4 % 65536 ∧ y2 = n / 262144 % 65536 ∧ y3 = n / 17179869184 % 65536 ∧ y4 = (n / 1125899906842624 % 2 == 1)) := ⟨_, _, _, _, _, h0, h1, rfl, rfl, rfl, rfl, rfl⟩
  have HP0 := fun w => PutHead_any a b c d f w
  have HR0 := fun w => RefHead_any a b c d f w ha hb hc hd
  generalize putHead a b c d f = p at *
  obtain ⟨z0, z1, z2, z3, z4, hz⟩ : ∃ (y0 y1 y2 y3 : Int) (y4 : Bool), Hid (0 ≤ p ∧ p < 18446744073709551616 ∧ y0 = p % 4 ∧ y1 = p / 4 % 65536 ∧ y2 = p / 262144 % 65536 ∧ y3 = p / 17179869184 % 65536 ∧ y4 = (p / 1125899906842624 % 2 == 1)) := ⟨_, _, _, _, _, hp.1, hp.2, rfl, rfl, rfl, rfl, rfl⟩
  have HP := Lib.hid HP0
  have HR := Lib.hid HR0
  clear ha hb hc hd h0 h1 hp HP0 HR0
  have HS := BoxN.new w #[.int .i64 a, .int .i64 b, .int .i64 c, .int .i64 d, .bool f] 50
  go_enter Try.func10, Try.ntmps10
  go_wp2_with (first
        | (go_at_call 40; refine (HP.out _).mono ?_; rintro e w9 ⟨rfl, hb⟩; replace HS := HS.step hb; clear hb; have k0 := HS.cells 0; have k1 := HS.cells 1; have k2 := HS.cells 2; have k3 := HS.cells 3; have k4 := HS.cells 4)
        | (go_at_call 26; refine (awake1_any _).mono ?_; rintro e w9 ⟨rfl, hb⟩; replace HS := HS.step hb; clear k0 k1 k2 k3 k4 hb; have k0 := HS.cells 0; have k1 := HS.cells 1; have k2 := HS.cells 2; have k3 := HS.cells 3; have k4 := HS.cells 4)
        | (go_at_call 39; refine (HR.out _).mono ?_; rintro e w9 ⟨rfl, hb⟩; replace HS := HS.step hb; clear hb)
        | (go_at_call_of 41 p; refine (Head_at p z0 z1 z2 z3 z4 _ hz).mono ?_; rintro e w9 ⟨rfl, hb⟩; replace HS := HS.step hb; clear hb)
        | (go_at_call_of 41 n; refine (Head_at n y0 y1 y2 y3 y4 _ hy).mono ?_; rintro e w9 ⟨rfl, hb⟩; replace HS := HS.step hb; clear hb)
        | (go_at_call_of 38 p; refine (GetHead_at p z0 z1 z2 z3 z4 _ hz).mono ?_; rintro e w9 ⟨rfl, hb⟩; replace HS := HS.step hb; clear hb)
        | (go_at_call_of 38 n; refine (GetHead_at n y0 y1 y2 y3 y4 _ hy).mono ?_; rintro e w9 ⟨rfl, hb⟩; replace HS := HS.step hb; clear hb))
  go_ret
  exact ⟨rfl, HS.below⟩

/-! ### WordCells -/
theorem putCell_bd (v : Int) (f : Bool) (ver : Int) : 0 ≤ putCell v f ver ∧ putCell v f ver < 18446744073709551616 ∧ (f = false → putCell v f ver ≤ 1099511627775) ∧
    putCell v f ver % 1099511627776 = fitI v 1099511627775 ∧ (putCell v f ver / 9223372036854775808 == 1) = f ∧ (f = true → putCell v f ver / 1099511627776 % 4194304 = fitI ver 4194303) := by
  have b0 := fitI_bd v 1099511627775 (by omega)
  have b1 := fitI_bd ver 4194303 (by omega)
  unfold putCell bit
  cases f
  · simp
    refine ⟨by omega, by omega, by omega, by omega, by omega⟩
  · simp
    refine ⟨by omega, by omega, by omega, by omega, by omega⟩
theorem Cell_at (n y0 : Int) (y1 : Bool) (y2 : Int) (w : World) (h : Hid (0 ≤ n ∧ n < 18446744073709551616 ∧ y0 = n % 1099511627776 ∧ y1 = (n / 9223372036854775808 == 1) ∧ y2 = (if n / 9223372036854775808 = 1 then n / 1099511627776 % 4194304 else 0))) :
    Calls Try.prog 43 #[.int .u64 n] w fun e w' => e = .returned (.agg #[.int .i64 y0, .bool y1, .int .i64 y2]) ∧ Below w.heap.size w w' := by
  obtain ⟨h0, h1, rfl, rfl, rfl⟩ := h.out
  exact Cell_any n w h0 h1
theorem GetCell_at (n y0 : Int) (y1 : Bool) (y2 : Int) (w : World) (h : Hid (0 ≤ n ∧ n < 18446744073709551616 ∧ y0 = n % 1099511627776 ∧ y1 = (n / 9223372036854775808 == 1) ∧ y2 = (if n / 9223372036854775808 = 1 then n / 1099511627776 % 4194304 else 0))) :
    Calls Try.prog 45 #[.int .u64 n] w fun e w' => e = .returned (.agg #[.int .i64 y0, .bool y1, .int .i64 y2]) ∧ Below w.heap.size w w' := by
  obtain ⟨h0, h1, rfl, rfl, rfl⟩ := h.out
  exact GetCell_any n w h0 h1

set_option maxHeartbeats 4000000 in
set_option maxRecDepth 100000 in
theorem WordCells_any (v : Int) (f : Bool) (ver : Int) (n : Int) (w : World) (ha : v ≤ 9223372036854775807) (hb : ver ≤ 9223372036854775807) (h0 : 0 ≤ n) (h1 : n < 18446744073709551616) :
    Calls Try.prog 11 #[.agg #[.int .i64 v, .bool f, .int .i64 ver], .int .u64 n] w fun e w' => e = .returned (.bool true) ∧ Below w.heap.size w w' := by
  have hp := putCell_bd v f ver
  obtain ⟨y0, y1, y2, hy⟩ : ∃ (y0 : Int) (y1 : Bool) (y2 : Int), Hid (0 ≤ n ∧ n < 18446744073709551616 ∧ y0 = n % 1099511627776 ∧ y1 = (n / 9223372036854775808 == 1) ∧ y2 = (if n / 9223372036854775808 = 1 then n / 1099511627776 % 4194304 else 0)) := ⟨_, _, _, h0, h1, rfl, rfl, rfl⟩
  have HP0 := fun w => PutCell_any v f ver w
  have HR0 := fun w => RefCell_any v f ver w ha hb
  generalize putCell v f ver = p at *
  obtain ⟨p0, p1, p2, p3, p4, p5⟩ := hp
  obtain ⟨z0, z2, hz0, hz2, hz⟩ : ∃ z0 z2 : Int, z0 = fitI v 1099511627775 ∧ (f = true → z2 = fitI ver 4194303) ∧ Hid (0 ≤ p ∧ p < 18446744073709551616 ∧ z0 = p % 1099511627776 ∧ f = (p / 9223372036854775808 == 1) ∧ z2 = (if p / 9223372036854775808 = 1 then p / 1099511627776 % 4194304 else 0)) :=
    ⟨_, _, rfl, fun e => by rw [if_pos (by rw [e] at p4; exact beq_iff_eq.1 p4), p5 e], p0, p1, p3.symm, p4.symm, rfl⟩
  have HP := Lib.hid HP0
  have HR := Lib.hid HR0
  clear p3 p4 p5 ha hb h0 h1 p0 p1 HP0 HR0
  have HS := BoxN.new w #[.int .i64 v, .bool f, .int .i64 ver] 57
  have cases5 : v < 0 ∨ 1099511627775 < v ∨ (0 ≤ v ∧ v ≤ 1099511627775 ∧ ver < 0) ∨ (0 ≤ v ∧ v ≤ 1099511627775 ∧ 4194303 < ver) ∨ (0 ≤ v ∧ v ≤ 1099511627775 ∧ 0 ≤ ver ∧ ver ≤ 4194303) := by omega
  have hfit : (0 ≤ v ∧ v ≤ 1099511627775 ∧ 0 ≤ ver ∧ ver ≤ 4194303) → z0 = v ∧ (f = true → z2 = ver) := by
    rintro ⟨c0, c1, c2, c3⟩
    exact ⟨by rw [hz0, fitI_in _ _ c0 c1], fun e => by rw [hz2 e, fitI_in _ _ c2 c3]⟩
  have HF := Lib.hid hfit
  have HB : Hid (f = false → p ≤ 1099511627775) := p2
  clear hz0 hz2 hfit p2
  rcases cases5 with c0 | c0 | ⟨c0, c1, c2⟩ | ⟨c0, c1, c2⟩ | ⟨c0, c1, c2, c3⟩
  rotate_right
  · obtain ⟨rfl, hz2⟩ := HF.out ⟨c0, c1, c2, c3⟩
    cases f
    · have hpb := HB.out rfl
      clear hz2 HF HB
      go_enter Try.func11, Try.ntmps11
      go_wp2_with (first
        | (go_at_call 42; refine (HP.out _).mono ?_; rintro e w9 ⟨rfl, hb⟩; replace HS := HS.step hb; clear hb)
        | (go_at_call_of 43 p; refine (Cell_at p z0 _ z2 _ hz).mono ?_; rintro e w9 ⟨rfl, hb⟩; replace HS := HS.step hb; clear hb; have k0 := HS.cells 0; have k1 := HS.cells 1; have k2 := HS.cells 2; have hlt := HS.lt)
        | (go_at_call 26; refine (awake1_any _).mono ?_; rintro e w9 ⟨rfl, hb⟩; replace HS := (HS.step (below_new _ _)).step hb; clear k0 k1 k2 hlt hb; have k0 := HS.cells 0; have k1 := HS.cells 1; have k2 := HS.cells 2)
        | (go_at_call 44; refine (HR.out _).mono ?_; rintro e w9 ⟨rfl, hb⟩; replace HS := HS.step hb; clear k0 k1 k2 hb; have k0 := HS.cells 0; have k1 := HS.cells 1; have k2 := HS.cells 2)
        | (go_at_call_of 43 n; refine (Cell_at n y0 y1 y2 _ hy).mono ?_; rintro e w9 ⟨rfl, hb⟩; replace HS := HS.step hb; clear k0 k1 k2 hb; have k0 := HS.cells 0; have k1 := HS.cells 1; have k2 := HS.cells 2)
        | (go_at_call_of 45 n; refine (GetCell_at n y0 y1 y2 _ hy).mono ?_; rintro e w9 ⟨rfl, hb⟩; replace HS := HS.step hb; clear k0 k1 k2 hb; have k0 := HS.cells 0; have k1 := HS.cells 1; have k2 := HS.cells 2))
      go_ret
      exact ⟨rfl, HS.below⟩
    · obtain rfl := hz2 rfl
      clear hz2 HF HB
      go_enter Try.func11, Try.ntmps11
      go_wp2_with (first
        | (go_at_call 42; refine (HP.out _).mono ?_; rintro e w9 ⟨rfl, hb⟩; replace HS := HS.step hb; clear hb)
        | (go_at_call_of 43 p; refine (Cell_at p z0 _ z2 _ hz).mono ?_; rintro e w9 ⟨rfl, hb⟩; replace HS := HS.step hb; clear hb; have k0 := HS.cells 0; have k1 := HS.cells 1; have k2 := HS.cells 2; have hlt := HS.lt)
        | (go_at_call 26; refine (awake1_any _).mono ?_; rintro e w9 ⟨rfl, hb⟩; replace HS := (HS.step (below_new _ _)).step hb; clear k0 k1 k2 hlt hb; have k0 := HS.cells 0; have k1 := HS.cells 1; have k2 := HS.cells 2)
        | (go_at_call 44; refine (HR.out _).mono ?_; rintro e w9 ⟨rfl, hb⟩; replace HS := HS.step hb; clear k0 k1 k2 hb; have k0 := HS.cells 0; have k1 := HS.cells 1; have k2 := HS.cells 2)
        | (go_at_call_of 43 n; refine (Cell_at n y0 y1 y2 _ hy).mono ?_; rintro e w9 ⟨rfl, hb⟩; replace HS := HS.step hb; clear k0 k1 k2 hb; have k0 := HS.cells 0; have k1 := HS.cells 1; have k2 := HS.cells 2)
        | (go_at_call_of 45 n; refine (GetCell_at n y0 y1 y2 _ hy).mono ?_; rintro e w9 ⟨rfl, hb⟩; replace HS := HS.step hb; clear k0 k1 k2 hb; have k0 := HS.cells 0; have k1 := HS.cells 1; have k2 := HS.cells 2))
      go_ret
      exact ⟨rfl, HS.below⟩
  all_goals
    clear HF
    cases f
    · have hpb := HB.out rfl
      clear HB
      go_enter Try.func11, Try.ntmps11
      go_wp2_with (first
        | (go_at_call 42; refine (HP.out _).mono ?_; rintro e w9 ⟨rfl, hb⟩; replace HS := HS.step hb; clear hb)
        | (go_at_call_of 43 p; refine (Cell_at p z0 _ z2 _ hz).mono ?_; rintro e w9 ⟨rfl, hb⟩; replace HS := HS.step hb; clear hb; have k0 := HS.cells 0; have k1 := HS.cells 1; have k2 := HS.cells 2; have hlt := HS.lt)
        | (go_at_call 26; refine (awake1_any _).mono ?_; rintro e w9 ⟨rfl, hb⟩; replace HS := (HS.step (below_new _ _)).step hb; clear k0 k1 k2 hlt hb; have k0 := HS.cells 0; have k1 := HS.cells 1; have k2 := HS.cells 2)
        | (go_at_call 44; refine (HR.out _).mono ?_; rintro e w9 ⟨rfl, hb⟩; replace HS := HS.step hb; clear k0 k1 k2 hb; have k0 := HS.cells 0; have k1 := HS.cells 1; have k2 := HS.cells 2)
        | (go_at_call_of 43 n; refine (Cell_at n y0 y1 y2 _ hy).mono ?_; rintro e w9 ⟨rfl, hb⟩; replace HS := HS.step hb; clear k0 k1 k2 hb; have k0 := HS.cells 0; have k1 := HS.cells 1; have k2 := HS.cells 2)
        | (go_at_call_of 45 n; refine (GetCell_at n y0 y1 y2 _ hy).mono ?_; rintro e w9 ⟨rfl, hb⟩; replace HS := HS.step hb; clear k0 k1 k2 hb; have k0 := HS.cells 0; have k1 := HS.cells 1; have k2 := HS.cells 2))
      go_ret
      exact ⟨rfl, HS.below⟩
    · clear HB
      go_enter Try.func11, Try.ntmps11
      go_wp2_with (first
        | (go_at_call 42; refine (HP.out _).mono ?_; rintro e w9 ⟨rfl, hb⟩; replace HS := HS.step hb; clear hb)
        | (go_at_call_of 43 p; refine (Cell_at p z0 _ z2 _ hz).mono ?_; rintro e w9 ⟨rfl, hb⟩; replace HS := HS.step hb; clear hb; have k0 := HS.cells 0; have k1 := HS.cells 1; have k2 := HS.cells 2; have hlt := HS.lt)
        | (go_at_call 26; refine (awake1_any _).mono ?_; rintro e w9 ⟨rfl, hb⟩; replace HS := (HS.step (below_new _ _)).step hb; clear k0 k1 k2 hlt hb; have k0 := HS.cells 0; have k1 := HS.cells 1; have k2 := HS.cells 2)
        | (go_at_call 44; refine (HR.out _).mono ?_; rintro e w9 ⟨rfl, hb⟩; replace HS := HS.step hb; clear k0 k1 k2 hb; have k0 := HS.cells 0; have k1 := HS.cells 1; have k2 := HS.cells 2)
        | (go_at_call_of 43 n; refine (Cell_at n y0 y1 y2 _ hy).mono ?_; rintro e w9 ⟨rfl, hb⟩; replace HS := HS.step hb; clear k0 k1 k2 hb; have k0 := HS.cells 0; have k1 := HS.cells 1; have k2 := HS.cells 2)
        | (go_at_call_of 45 n; refine (GetCell_at n y0 y1 y2 _ hy).mono ?_; rintro e w9 ⟨rfl, hb⟩; replace HS := HS.step hb; clear k0 k1 k2 hb; have k0 := HS.cells 0; have k1 := HS.cells 1; have k2 := HS.cells 2))
      go_ret
      exact ⟨rfl, HS.below⟩
end Go.Proofs.Ytnpjfdiapoghnaa
