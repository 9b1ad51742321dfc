/- Layer 2's statement MemApart: what is done to one word leaves all others; the walk. -/
import Derived.Test.YtnpjfdiapoghnaaLaw2a
import Derived.Test.YtnpjfdiapoghnaaComes2
import Derived.Test.YtnpjfdiapoghnaaBits
import Derived.Test.YtnpjfdiapoghnaaPin
import Derived.LoopTactic
namespace Go.Proofs.Ytnpjfdiapoghnaa
open Go Go.RowKit

theorem PeekH {g gw gh : Nat} {m : Ms} {W : World} (hM : MemAt W g gw gh m) (k : Nat) (v : Int) (h1 : k < m.n) (he : m.w k = v) :
    Hid (∀ q : Nat, Calls Try.prog 49 #[.pointer (some ⟨g, 0, none⟩), .int .i64 k] (W.drewN q) fun e w' => e = .returned (.int .u64 v) ∧ w' = W.drewN q) := by
  intro q
  rw [← he]
  exact Peek_yes g gw gh m k _ (hM.drewN q) h1
theorem updS (f : Nat → Int) (k : Nat) (v : Int) : upd f k v k = v := if_pos rfl
theorem updO (f : Nat → Int) (k j : Nat) (v : Int) (h : j ≠ k) : upd f k v j = f j := if_neg h
/-- What has been copied of the words so far. -/
def Copied (W : World) (V K i : Nat) (m : Ms) : Prop := ∃ cs : Array Value, W.heap[V]? = some (.cells cs 24 (0, 0)) ∧ cs.size = K ∧ ∀ j, j < i → cs[j]? = some (.int .u64 (m.w j))
theorem Copied.next {W : World} {V K i : Nat} {m : Ms} (h : Copied W V K i m) (hi : i < K) : Copied (W.setCell ⟨V, i, none⟩ (.int .u64 (m.w i))) V K (i + 1) m := by
  obtain ⟨cs, h1, h2, h3⟩ := h
  refine ⟨_, heap_set_self i _ h1, by simp [h2], fun j hj => ?_⟩
  by_cases e : j = i
  · subst e; simp [h2, hi]
  · simp [Ne.symm e, h3 j (by omega)]
theorem Copied.cell {W : World} {V K i : Nat} {m : Ms} (h : Copied W V K i m) {j : Nat} (hj : j < i) : W.cell? ⟨V, j, none⟩ = some (.int .u64 (m.w j)) := by
  obtain ⟨cs, h1, h2, h3⟩ := h
  exact (cell_of_row W V j _ _ _ h1).trans (h3 j hj)
theorem Copied.fr {W : World} {V K i : Nat} {m : Ms} (h : Copied W V K i m) (j : Nat) : W.frozen? ⟨V, j, none⟩ = false := by
  obtain ⟨cs, h1, h2, h3⟩ := h
  exact frozen_of j h1
theorem Copied.isSome {W : World} {V K i : Nat} {m : Ms} (h : Copied W V K i m) {j : Nat} (hj : j < K) : ∃ v, W.cell? ⟨V, j, none⟩ = some v := by
  obtain ⟨cs, h1, h2, h3⟩ := h
  exact ⟨cs[j]'(by omega), (cell_of_row W V j _ _ _ h1).trans (Array.getElem?_eq_getElem (by omega))⟩
theorem Copied.far {W W' : World} {V K i g gw gh : Nat} {m : Ms} (h : Copied W V K i m) (k : Keep3 g gw gh W W') (a : V ≠ g) (b : V ≠ gw) (c : V ≠ gh) : Copied W' V K i m := by
  obtain ⟨cs, h1, h2, h3⟩ := h
  exact ⟨cs, k.heap h1 a b c, h2, h3⟩
theorem Copied.drewN {W : World} {V K i : Nat} {m : Ms} (h : Copied W V K i m) (n : Nat) : Copied (W.drewN n) V K i m := h

theorem at_of (a : Int) (K : Nat) (h2 : 2 ≤ K) (h9 : K ≤ 9) : ∃ t : Nat, (wrap64 (a.tmod (K : Int) + (K : Int))).tmod (K : Int) = (t : Int) ∧ t < K := by
  have h1 : a.tmod (K : Int) < K := Int.tmod_lt_of_pos a (by omega)
  have h3 : -(K : Int) < a.tmod (K : Int) := Int.lt_tmod_of_pos a (by omega)
  have e : wrap64 (a.tmod (K : Int) + (K : Int)) = a.tmod (K : Int) + (K : Int) := IntWalk.wrap64_in _ ⟨by omega, by omega⟩
  rw [e]
  have h4 : (a.tmod (K : Int) + (K : Int)).tmod (K : Int) < K := Int.tmod_lt_of_pos _ (by omega)
  have h5 : 0 ≤ (a.tmod (K : Int) + (K : Int)).tmod (K : Int) := Int.tmod_nonneg _ (by omega)
  exact ⟨((a.tmod (K : Int) + (K : Int)).tmod (K : Int)).toNat, by omega, by omega⟩
/-- What an act leaves. -/
structure AP (K at_ : Nat) (same : Bool) (m m' : Ms) (s : Nat) : Prop where
  n : m'.n = K
  st : m'.steps ≤ 20 + ((s : Nat) : Int)
  w : ∀ j, j ≠ at_ ∨ same = true → m'.w j = m.w j
theorem AP.load {K at_ s : Nat} {m : Ms} (hn : m.n = K) (hs : m.steps ≤ 20 + (s : Int)) : AP K at_ true m (m.step at_) (s + 1) :=
  ⟨hn, by show m.steps + 1 ≤ _; omega, fun _ _ => rfl⟩
theorem AP.set {K at_ s : Nat} {m : Ms} (v : Int) (hn : m.n = K) (hs : m.steps ≤ 20 + (s : Int)) : AP K at_ false m ((m.step at_).set at_ v) (s + 1) :=
  ⟨hn, by show m.steps + 1 ≤ _; omega, fun j hj => by
    rcases hj with h | h
    · exact updO m.w at_ j v h
    · cases h⟩

set_option maxHeartbeats 4000000 in
set_option maxRecDepth 100000 in
theorem MemApart_any (nn : Int) (A : Option Addr) (n c : Nat) (w : World) (hl : ComesA w A n) :
    Calls Try.prog 14 #[.int .i64 nn, .slice A n c] w fun e w' => e = .returned (.bool true) ∧ Below w.heap.size w w' := by
  have HL := Lib.hid hl
  have hn := hl.1
  clear hl
  have bv := andw_bd 3 nn 7 .i64 (.inl rfl) (by decide) (by omega)
  obtain ⟨K0, ev, hK0⟩ : ∃ K0 : Nat, bits .and .i64 nn 7 = (K0 : Int) ∧ K0 ≤ 7 := ⟨(bits .and .i64 nn 7).toNat, by omega, by omega⟩
  clear bv
  go_enter Try.func14, Try.ntmps14
  go_wp2_with fail
  obtain ⟨K, hK⟩ : ∃ K : Nat, 2 + (K0 : Int) = (K : Int) := ⟨2 + K0, by omega⟩
  rw [hK]
  have hK2 : 2 ≤ K ∧ K ≤ 9 := by omega
  have HM1 := Lib.hid (run_make_row' (P := Try.prog) 61 24 (.int .u64 0) 8 Try.underlying61 Try.info24 rfl .i64 .i64 K (by omega) (by omega))
  obtain ⟨hKa, hKb⟩ := hK2
  clear hK ev hK0
  refine (New_yes K _ (by omega) (by omega)).mono ?_
  rintro e W1 ⟨g, gw, gh, rfl, hM1, hB, b0, b1, b2⟩
  have hs := hB.size
  have HP0 : Hid ((Ms.new K).n = K ∧ (Ms.new K).steps ≤ 0) := ⟨rfl, by simp [Ms.new]⟩
  generalize Ms.new K = m0 at hM1 HP0
  go_wp2_with fail
  go_loopw [7, 8] (fun e i wr => ∃ (k : Nat) (m : Ms), i = .int .i64 k ∧ e = .int .i64 0 ∧ k ≤ K ∧ Hid (m.n = K ∧ m.steps ≤ k) ∧ MemAt wr g gw gh m ∧ Below w.heap.size w wr ∧ w.heap.size ≤ wr.heap.size) (fun _ i _ => K - (intOf i).toNat)
  case atStart => exact ⟨0, _, rfl, rfl, by omega, HP0, hM1, hB, hs⟩
  case round =>
    clear HP0 hM1 hB hs
    obtain ⟨k, m, rfl, rfl, hk, hP, hM, hB, hs⟩ := hrel
    by_cases hlt : k < K
    · have hki : (k : Int) < (K : Int) := by omega
      have hu : IntKind.u64.wrap ((k : Int)) = (k : Int) := wrap_u64_in _ (by omega) (by omega)
      have hu7 : IntKind.u64.wrap ((k : Int) * 7) = (k : Int) * 7 := wrap_u64_in _ (by omega) (by omega)
      go_wp2_with fail
      refine (Store_yes g gw gh m k ((k : Int) * 7) _ hM (by rw [hP.out.1]; omega) (by have := hP.out.2; omega) (by omega)).mono ?_
      rintro e w9 ⟨rfl, hM9, hK9⟩
      have hB9 := hB.trans (hK9.below b0 b1 b2 hs)
      have hs9 := Nat.le_trans hs hK9.size
      have hP9 : Hid (((m.step k).set k ((k : Int) * 7)).n = K ∧ ((m.step k).set k ((k : Int) * 7)).steps ≤ ((k + 1 : Nat) : Int)) := ⟨hP.out.1, by have := hP.out.2; show m.steps + 1 ≤ _; omega⟩
      clear hM hB hs hK9 hP hu hu7
      go_wp2
      go_roundw
      case rel => exact ⟨k + 1, _, by go_num, rfl, by omega, hP9, hM9, hB9, hs9⟩
      case measure => simp [intOf]; omega
    · have hkk : K ≤ k := by omega
      have hP0 : Hid (m.n = K ∧ m.steps ≤ 20 + ((0 : Nat) : Int)) := ⟨hP.out.1, by have := hP.out.2; omega⟩
      clear hlt hP
      go_wp2_with fail
      refine (awake2_any _).mono ?_
      rintro e w8 ⟨rfl, hb8⟩
      replace hM := hM.below hb8
      replace hB := hB.trans (hb8.mono hs)
      replace hs := Nat.le_trans hs hb8.size
      clear hb8
      go_wp2_with fail
      go_loopw [9, 10, 11, 12, 13, 14] (fun i _ _ _ _ _ wr => ∃ (k : Nat) (m : Ms) (U : World), i = .int .i64 k ∧ k ≤ 60 ∧ U = wr ∧ Hid (m.n = K ∧ m.steps ≤ 20 + ((k : Nat) : Int)) ∧ MemAt U g gw gh m ∧ Below w.heap.size w U ∧ w.heap.size ≤ U.heap.size) (fun i _ _ _ _ _ _ => 60 - (intOf i).toNat)
      case atStart => exact ⟨0, _, _, rfl, by omega, rfl, hP0, hM, hB, hs⟩
      case round =>
        clear hP0 hM hB hs
        obtain ⟨k3, m, U, rfl, hk60, rfl, hP, hM, hB, hs⟩ := hrel
        by_cases hlt : k3 < n ∧ k3 < 60
        · obtain ⟨q1, q2⟩ := hlt
          have q1i : (k3 : Int) < (n : Int) := by omega
          have q2i : (k3 : Int) < 60 := by omega
          obtain ⟨b', off, rfl, hb, hc⟩ := HL.out.2 (by omega)
          obtain ⟨kd, a, h, x, f, hact⟩ := hc k3 q1
          have HA := Lib.hid hact
          clear hact hc
          have hm1 := HM1.out
          have hst : m.steps < 4611686018427387904 := by have := hP.out.2; omega
          have npV : U.heap.size ≠ g ∧ U.heap.size ≠ gw ∧ U.heap.size ≠ gh := by have := hM.lt; have := hM.ltw; have := hM.lth; omega
          have hMa := hM.below (below_new U (.cells (madeCells #[.int .u64 0] K) 24))
          have hCa : Copied (U.alloc (.cells (madeCells #[.int .u64 0] K) 24)) U.heap.size K 0 m := ⟨_, heap_alloc_new U _, size_madeCells _ _, fun j hj => absurd hj (by omega)⟩
          have hBa := hB.alloc hs (.cells (madeCells #[.int .u64 0] K) 24)
          have hsa : w.heap.size ≤ (U.alloc (.cells (madeCells #[.int .u64 0] K) 24)).heap.size := by simp; omega
          have hVw : w.heap.size ≤ U.heap.size := hs
          go_wp2_with fail
          clear hM hB hs hm1
          generalize U.alloc (.cells (madeCells #[.int .u64 0] K) 24) = U1 at hMa hCa hBa hsa ⊢
          generalize U.heap.size = V at hCa npV hVw ⊢
          go_loopw [11] (fun i wr => ∃ (j : Nat) (U : World), i = .int .i64 j ∧ j ≤ K ∧ U = wr ∧ MemAt U g gw gh m ∧ Copied U V K j m ∧ Below w.heap.size w U ∧ w.heap.size ≤ U.heap.size) (fun i _ => K - (intOf i).toNat)
          case atStart => exact ⟨0, _, rfl, by omega, rfl, hMa, hCa, hBa, hsa⟩
          case round =>
            clear hMa hCa hBa hsa
            obtain ⟨j, U2, rfl, hjK, rfl, hM, hC, hB, hs⟩ := hrel
            by_cases hj : j < K
            · have hji : (j : Int) < (K : Int) := by omega
              obtain ⟨v, cv⟩ := hC.isSome hj
              have fv := hC.fr j
              go_wp2_with fail
              refine (Peek_yes g gw gh m j _ hM (by rw [hP.out.1]; exact hj)).mono ?_
              rintro e w9 ⟨rfl, hw⟩
              obtain rfl := hw.symm
              clear hw
              have hM9 := hM.far (p := ⟨V, j, none⟩) (.int .u64 (m.w j)) (Ne.symm npV.1) (Ne.symm npV.2.1) (Ne.symm npV.2.2)
              have hB9 := hB.setCell (p := ⟨V, j, none⟩) hVw (.int .u64 (m.w j))
              have hC9 := hC.next hj
              have hs9 : w.heap.size ≤ (U2.setCell ⟨V, j, none⟩ (.int .u64 (m.w j))).heap.size := by simp [World.setCell]; omega
              clear hM hB hC hs
              go_wp2
              go_roundw
              case rel => exact ⟨j + 1, _, by go_num, by omega, rfl, hM9, hC9, hB9, hs9⟩
              case measure => simp [intOf]; omega
            · have hjj : K ≤ j := by omega
              clear hj
              have ca : U2.cell? ⟨b', off + k3 * 5 + 1, none⟩ = some (.int .i64 a) := (hB.cell hb).trans HA.out.2.1
              have ck : U2.cell? ⟨b', off + k3 * 5, none⟩ = some (.int .i64 kd) := (hB.cell hb).trans HA.out.1
              have cx : U2.cell? ⟨b', off + k3 * 5 + 3, none⟩ = some (.int .u64 x) := (hB.cell hb).trans HA.out.2.2.2.1
              have ba := HA.out.2.2.2.2.2.2.1
              have hK0 : (K : Int) ≠ 0 := by omega
              obtain ⟨at_, eat, hat⟩ := at_of a K hKa hKb
              have hatK : at_ < m.n := by rw [hP.out.1]; exact hat
              have hCK : Copied U2 V K K m := by
                obtain ⟨cs, h1, h2, h3⟩ := hC
                exact ⟨cs, h1, h2, fun i hi => h3 i (by omega)⟩
              have cat := hCK.cell hat
              have hati : (at_ : Int) < (K : Int) := by omega
              have hjji : (K : Int) ≤ (j : Int) := by omega
              clear hjK hC
              rcases (by omega : kd = 0 ∨ kd = 1 ∨ kd = 2 ∨ (kd ≠ 0 ∧ kd ≠ 1 ∧ kd ≠ 2)) with rfl | rfl | rfl | ⟨z0, z1, z2⟩
              · go_wp2_with fail
                refine (Load_yes g gw gh m at_ _ hM hatK hst).mono ?_
                rintro e w9 ⟨rfl, hM9, hK9⟩
                have HP9 := Lib.hid (AP.load (at_ := at_) hP.out.1 hP.out.2)
                have hX9 := hCK.far hK9 npV.1 npV.2.1 npV.2.2
                have hB9 := hB.trans (hK9.below b0 b1 b2 hs)
                have hs9 := Nat.le_trans hs hK9.size
                clear hM hB hCK hs hK9 ca ck cx cat hP
                go_wp2_with fail
                go_loopw [14] (fun i wr => ∃ (j : Nat) (U : World), i = .int .i64 j ∧ j ≤ K ∧ U = wr ∧ MemAt U g gw gh (m.step at_) ∧ Copied U V K K m ∧ Below w.heap.size w U ∧ w.heap.size ≤ U.heap.size) (fun i _ => K - (intOf i).toNat)
                case atStart => exact ⟨0, _, rfl, by omega, rfl, hM9, hX9, hB9, hs9⟩
                case round =>
                  clear hM9 hX9 hB9 hs9
                  obtain ⟨j2, U3, rfl, hjK, rfl, hM, hC, hB, hs⟩ := hrel
                  by_cases hj : j2 < K
                  · have hji : (j2 : Int) < (K : Int) := by omega
                    have cv := hC.cell hj
                    by_cases hja : j2 = at_
                    · have e1 : ((j2 : Int) != (at_ : Int)) = false := by simp [hja]
                      have hja' := Lib.hid hja
                      clear hja
                      have HPk := PeekH hM j2 (m.w j2) (by rw [HP9.out.n]; exact hj) (HP9.out.w j2 (.inr rfl))
                      go_wp2
                      go_quiet ((go_at_call 49; exact Calls.quiet_of_same (HPk.out _)))
                      go_wp2
                      go_roundw
                      case rel => exact ⟨j2 + 1, _, by go_num, by omega, rfl, hM.drewN _, hC.drewN _, below_drewN hB _, hs⟩
                      case measure => simp [intOf]; omega
                    · have e1 : ((j2 : Int) != (at_ : Int)) = true := bne_iff_ne.2 (by omega)
                      have HPk := PeekH hM j2 (m.w j2) (by rw [HP9.out.n]; exact hj) (HP9.out.w j2 (.inl hja))
                      go_wp2
                      go_quiet ((go_at_call 49; exact Calls.quiet_of_same (HPk.out _)))
                      go_wp2
                      go_roundw
                      case rel => exact ⟨j2 + 1, _, by go_num, by omega, rfl, hM.drewN _, hC.drewN _, below_drewN hB _, hs⟩
                      case measure => simp [intOf]; omega
                  · have hjj : K ≤ j2 := by omega
                    have HP8 : Hid ((m.step at_).n = K ∧ (m.step at_).steps ≤ 20 + ((k3 + 1 : Nat) : Int)) := ⟨HP9.out.n, HP9.out.st⟩
                    clear hj HP9
                    go_wp2
                    go_roundw
                    case rel => exact ⟨k3 + 1, _, _, by go_num, by omega, rfl, HP8, hM, hB, hs⟩
                    case measure => simp [intOf]; omega
              · go_wp2_with fail
                refine (Store_yes g gw gh m at_ x _ hM hatK hst (by have := HA.out.2.2.2.2.2.2.2.2; omega)).mono ?_
                rintro e w9 ⟨rfl, hM9, hK9⟩
                have HP9 := Lib.hid (AP.set (at_ := at_) x hP.out.1 hP.out.2)
                have hX9 := hCK.far hK9 npV.1 npV.2.1 npV.2.2
                have hB9 := hB.trans (hK9.below b0 b1 b2 hs)
                have hs9 := Nat.le_trans hs hK9.size
                clear hM hB hCK hs hK9 ca ck cx cat hP
                go_wp2_with fail
                go_loopw [14] (fun i wr => ∃ (j : Nat) (U : World), i = .int .i64 j ∧ j ≤ K ∧ U = wr ∧ MemAt U g gw gh ((m.step at_).set at_ x) ∧ Copied U V K K m ∧ Below w.heap.size w U ∧ w.heap.size ≤ U.heap.size) (fun i _ => K - (intOf i).toNat)
                case atStart => exact ⟨0, _, rfl, by omega, rfl, hM9, hX9, hB9, hs9⟩
                case round =>
                  clear hM9 hX9 hB9 hs9
                  obtain ⟨j2, U3, rfl, hjK, rfl, hM, hC, hB, hs⟩ := hrel
                  by_cases hj : j2 < K
                  · have hji : (j2 : Int) < (K : Int) := by omega
                    have cv := hC.cell hj
                    by_cases hja : j2 = at_
                    · have e1 : ((j2 : Int) != (at_ : Int)) = false := by simp [hja]
                      have hja' := Lib.hid hja
                      clear hja
                      go_wp2
                      go_quiet (fail)
                      go_wp2
                      go_roundw
                      case rel => exact ⟨j2 + 1, _, by go_num, by omega, rfl, hM.drewN _, hC.drewN _, below_drewN hB _, hs⟩
                      case measure => simp [intOf]; omega
                    · have e1 : ((j2 : Int) != (at_ : Int)) = true := bne_iff_ne.2 (by omega)
                      have HPk := PeekH hM j2 (m.w j2) (by rw [HP9.out.n]; exact hj) (HP9.out.w j2 (.inl hja))
                      go_wp2
                      go_quiet ((go_at_call 49; exact Calls.quiet_of_same (HPk.out _)))
                      go_wp2
                      go_roundw
                      case rel => exact ⟨j2 + 1, _, by go_num, by omega, rfl, hM.drewN _, hC.drewN _, below_drewN hB _, hs⟩
                      case measure => simp [intOf]; omega
                  · have hjj : K ≤ j2 := by omega
                    have HP8 : Hid (((m.step at_).set at_ x).n = K ∧ ((m.step at_).set at_ x).steps ≤ 20 + ((k3 + 1 : Nat) : Int)) := ⟨HP9.out.n, HP9.out.st⟩
                    clear hj HP9
                    go_wp2
                    go_roundw
                    case rel => exact ⟨k3 + 1, _, _, by go_num, by omega, rfl, HP8, hM, hB, hs⟩
                    case measure => simp [intOf]; omega
              · have hne : m.w at_ ≠ IntKind.u64.wrap (m.w at_ + 1) := by
                  have hb2 := hM.bnd at_ hatK
                  rw [show IntKind.u64.wrap (m.w at_ + 1) = (m.w at_ + 1) % 18446744073709551616 from by simp [IntKind.wrap, IntKind.bits, IntKind.signed]]
                  omega
                have HNE := Lib.hid hne
                clear hne
                go_wp2
                (first | (go_region_held3 (fun w' => w'.cell? ⟨V, at_, none⟩ = some (.int .u64 (m.w at_)) ∧ w'.cell? ⟨b', off + k3 * 5 + 3, none⟩ = some (.int .u64 x))
                  (first
                    | exact ⟨cat9, cx9⟩
                    | exact ⟨cat, cx⟩)
                  (first | (go_at_call 50; refine (Cas_other g gw gh m at_ _ x _ hM.drew hatK hst HNE.out).mono ?_; rintro e w9 ⟨rfl, hM9, hK9⟩; have cat9 := (hCK.far (W := U2.drew) hK9 npV.1 npV.2.1 npV.2.2).cell hat; have cx9 := ((hB.drew.trans (hK9.below b0 b1 b2 hs)).cell hb).trans HA.out.2.2.2.1))) | fail)
                have HP9 := Lib.hid (AP.load (at_ := at_) hP.out.1 hP.out.2)
                replace hB := hB.drew
                replace hCK : Copied U2.drew V K K m := hCK
                replace hs : w.heap.size ≤ U2.drew.heap.size := hs
                clear cat9 cx9
                have hX9 := hCK.far hK9 npV.1 npV.2.1 npV.2.2
                have hB9 := hB.trans (hK9.below b0 b1 b2 hs)
                have hs9 := Nat.le_trans hs hK9.size
                clear hM hB hCK hs hK9 ca ck cx cat hP
                go_wp2_with fail
                go_loopw [14] (fun i wr => ∃ (j : Nat) (U : World), i = .int .i64 j ∧ j ≤ K ∧ U = wr ∧ MemAt U g gw gh (m.step at_) ∧ Copied U V K K m ∧ Below w.heap.size w U ∧ w.heap.size ≤ U.heap.size) (fun i _ => K - (intOf i).toNat)
                case atStart => exact ⟨0, _, rfl, by omega, rfl, hM9, hX9, hB9, hs9⟩
                case round =>
                  clear hM9 hX9 hB9 hs9
                  obtain ⟨j2, U3, rfl, hjK, rfl, hM, hC, hB, hs⟩ := hrel
                  by_cases hj : j2 < K
                  · have hji : (j2 : Int) < (K : Int) := by omega
                    have cv := hC.cell hj
                    by_cases hja : j2 = at_
                    · have e1 : ((j2 : Int) != (at_ : Int)) = false := by simp [hja]
                      have hja' := Lib.hid hja
                      clear hja
                      have HPk := PeekH hM j2 (m.w j2) (by rw [HP9.out.n]; exact hj) (HP9.out.w j2 (.inr rfl))
                      go_wp2
                      go_quiet ((go_at_call 49; exact Calls.quiet_of_same (HPk.out _)))
                      go_wp2
                      go_roundw
                      case rel => exact ⟨j2 + 1, _, by go_num, by omega, rfl, hM.drewN _, hC.drewN _, below_drewN hB _, hs⟩
                      case measure => simp [intOf]; omega
                    · have e1 : ((j2 : Int) != (at_ : Int)) = true := bne_iff_ne.2 (by omega)
                      have HPk := PeekH hM j2 (m.w j2) (by rw [HP9.out.n]; exact hj) (HP9.out.w j2 (.inl hja))
                      go_wp2
                      go_quiet ((go_at_call 49; exact Calls.quiet_of_same (HPk.out _)))
                      go_wp2
                      go_roundw
                      case rel => exact ⟨j2 + 1, _, by go_num, by omega, rfl, hM.drewN _, hC.drewN _, below_drewN hB _, hs⟩
                      case measure => simp [intOf]; omega
                  · have hjj : K ≤ j2 := by omega
                    have HP8 : Hid ((m.step at_).n = K ∧ (m.step at_).steps ≤ 20 + ((k3 + 1 : Nat) : Int)) := ⟨HP9.out.n, HP9.out.st⟩
                    clear hj HP9
                    go_wp2
                    go_roundw
                    case rel => exact ⟨k3 + 1, _, _, by go_num, by omega, rfl, HP8, hM, hB, hs⟩
                    case measure => simp [intOf]; omega
              · have z0' : (kd == 0) = false := beq_eq_false_iff_ne.2 z0
                have z1' : (kd == 1) = false := beq_eq_false_iff_ne.2 z1
                have z2' : (kd == 2) = false := beq_eq_false_iff_ne.2 z2
                go_wp2_with fail
                refine (Add_yes g gw gh m at_ x _ _ hM hatK hst rfl).mono ?_
                rintro e w9 ⟨rfl, hM9, hK9⟩
                have HP9 := Lib.hid (AP.set (at_ := at_) (IntKind.u64.wrap (m.w at_ + x)) hP.out.1 hP.out.2)
                have hX9 := hCK.far hK9 npV.1 npV.2.1 npV.2.2
                have hB9 := hB.trans (hK9.below b0 b1 b2 hs)
                have hs9 := Nat.le_trans hs hK9.size
                clear hM hB hCK hs hK9 ca ck cx cat hP
                go_wp2_with fail
                go_loopw [14] (fun i wr => ∃ (j : Nat) (U : World), i = .int .i64 j ∧ j ≤ K ∧ U = wr ∧ MemAt U g gw gh ((m.step at_).set at_ (IntKind.u64.wrap (m.w at_ + x))) ∧ Copied U V K K m ∧ Below w.heap.size w U ∧ w.heap.size ≤ U.heap.size) (fun i _ => K - (intOf i).toNat)
                case atStart => exact ⟨0, _, rfl, by omega, rfl, hM9, hX9, hB9, hs9⟩
                case round =>
                  clear hM9 hX9 hB9 hs9
                  obtain ⟨j2, U3, rfl, hjK, rfl, hM, hC, hB, hs⟩ := hrel
                  by_cases hj : j2 < K
                  · have hji : (j2 : Int) < (K : Int) := by omega
                    have cv := hC.cell hj
                    by_cases hja : j2 = at_
                    · have e1 : ((j2 : Int) != (at_ : Int)) = false := by simp [hja]
                      have hja' := Lib.hid hja
                      clear hja
                      go_wp2
                      go_quiet (fail)
                      go_wp2
                      go_roundw
                      case rel => exact ⟨j2 + 1, _, by go_num, by omega, rfl, hM.drewN _, hC.drewN _, below_drewN hB _, hs⟩
                      case measure => simp [intOf]; omega
                    · have e1 : ((j2 : Int) != (at_ : Int)) = true := bne_iff_ne.2 (by omega)
                      have HPk := PeekH hM j2 (m.w j2) (by rw [HP9.out.n]; exact hj) (HP9.out.w j2 (.inl hja))
                      go_wp2
                      go_quiet ((go_at_call 49; exact Calls.quiet_of_same (HPk.out _)))
                      go_wp2
                      go_roundw
                      case rel => exact ⟨j2 + 1, _, by go_num, by omega, rfl, hM.drewN _, hC.drewN _, below_drewN hB _, hs⟩
                      case measure => simp [intOf]; omega
                  · have hjj : K ≤ j2 := by omega
                    have HP8 : Hid (((m.step at_).set at_ (IntKind.u64.wrap (m.w at_ + x))).n = K ∧ ((m.step at_).set at_ (IntKind.u64.wrap (m.w at_ + x))).steps ≤ 20 + ((k3 + 1 : Nat) : Int)) := ⟨HP9.out.n, HP9.out.st⟩
                    clear hj HP9
                    go_wp2
                    go_roundw
                    case rel => exact ⟨k3 + 1, _, _, by go_num, by omega, rfl, HP8, hM, hB, hs⟩
                    case measure => simp [intOf]; omega
        · rcases (by omega : n ≤ k3 ∨ (k3 < n ∧ 60 ≤ k3)) with q1 | ⟨q1, q2⟩
          · clear hlt
            go_wp2
            go_ret
            exact ⟨rfl, hB⟩
          · clear hlt
            go_wp2
            go_ret
            exact ⟨rfl, hB⟩
end Go.Proofs.Ytnpjfdiapoghnaa
