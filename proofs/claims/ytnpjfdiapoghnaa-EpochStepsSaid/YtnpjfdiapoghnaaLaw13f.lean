/- Layer 13's statement EpochSteps; the walk. -/
import Derived.Test.YtnpjfdiapoghnaaLaw13b
import Derived.Test.YtnpjfdiapoghnaaComes
import Derived.Test.YtnpjfdiapoghnaaSet
import Derived.Test.YtnpjfdiapoghnaaSteps
namespace Go.Proofs.Ytnpjfdiapoghnaa
open Go Go.RowKit

theorem AdvStep_all2 (th : Nat) (sl ch wo ge sp tr who : Int) (g gw gh p : Nat) (m0 m : Ms) (i : Nat) (pc now at_ : Int) (W : World) (hM : MemAt W g gw gh m) (hI : AdvAt W p pc now at_ false) (np : p ≠ g ∧ p ≠ gw ∧ p ≠ gh) (h8 : 1 ≤ th ∧ th ≤ 8) (hn : 6 + th ≤ m0.n) (hs : m.steps < 4611686018427387904) (hG : AGood th m0 i m pc now at_) :
    ∃ (d : Bool) (m' : Ms) (pc' now' at' : Int) (went' : Bool), Hid (Calls Try.prog 68 #[.pointer (some ⟨p, 0, none⟩), .agg #[.int .i64 (th : Nat), .int .i64 sl, .int .i64 ch, .int .i64 wo, .int .i64 ge, .int .i64 sp, .int .i64 tr, .pointer (some ⟨g, 0, none⟩), .int .i64 who]] W fun e W' => e = .returned (.bool d) ∧ MemAt W' g gw gh m' ∧ AdvAt W' p pc' now' at' went' ∧ KeepL [p, g, gw, gh] W W') ∧ (m'.steps = m.steps + 1 ∧ (m'.lc = false ∨ m'.la = 0)) ∧
      ((d = false ∧ went' = false ∧ AGood th m0 (i + 1) m' pc' now' at') ∨ (d = true ∧ AEnd th m0 m' went')) := by
  obtain ⟨gn, gs, gww, hst⟩ := hG
  rcases hst with ⟨rfl, rfl, rfl⟩ | ⟨k, rfl, hk, rfl, rfl, rfl, hok⟩ | ⟨rfl, rfl, rfl, hok⟩
  · refine ⟨_, _, _, _, _, _, AdvStep0 th sl ch wo ge sp tr who g gw gh p m now 0 W hM hI np (by omega) hs, ⟨rfl, .inl rfl⟩, .inl ⟨rfl, rfl, gn, ?_, gww, .inr (.inl ⟨0, rfl, by omega, rfl, rfl, by rw [gww], fun j hj => absurd hj (by omega)⟩)⟩⟩
    show m.steps + 1 = _; omega
  · have hw : m.w (6 + k) = m0.w (6 + k) := by rw [gww]
    have hlt : 6 + k < m.n := by omega
    by_cases e0 : m.w (6 + k) = 0
    · have hok' : ∀ j, j < k + 1 → okPin m0 (m0.w 0) j := fun j hj => by
        rcases Nat.lt_or_ge j k with h | h
        · exact hok j h
        · obtain rfl : j = k := by omega
          exact .inl (by rw [← hw]; exact e0)
      by_cases hl : k + 1 < th
      · refine ⟨_, _, _, _, _, _, AdvStep1_more_zero th sl ch wo ge sp tr who g gw gh p m (m0.w 0) W hM k (by omega) _ rfl hI np hlt hs (by simp [e0]) (by omega), ⟨rfl, .inl rfl⟩, .inl ⟨rfl, rfl, gn, ?_, gww, .inr (.inl ⟨k + 1, rfl, hl, rfl, by omega, rfl, hok'⟩)⟩⟩
        show m.steps + 1 = _; omega
      · refine ⟨_, _, _, _, _, _, AdvStep1_last_zero th sl ch wo ge sp tr who g gw gh p m (m0.w 0) W hM k (by omega) _ rfl hI np hlt hs (by simp [e0]) (by omega), ⟨rfl, .inl rfl⟩, .inl ⟨rfl, rfl, gn, ?_, gww, .inr (.inr ⟨by omega, rfl, rfl, fun j hj => hok' j (by omega)⟩)⟩⟩
        show m.steps + 1 = _; omega
    · by_cases e1 : m.w (6 + k) = IntKind.u64.wrap (m0.w 0 + 1)
      · have hok' : ∀ j, j < k + 1 → okPin m0 (m0.w 0) j := fun j hj => by
          rcases Nat.lt_or_ge j k with h | h
          · exact hok j h
          · obtain rfl : j = k := by omega
            exact .inr (by rw [← hw]; exact e1)
        by_cases hl : k + 1 < th
        · refine ⟨_, _, _, _, _, _, AdvStep1_more_same th sl ch wo ge sp tr who g gw gh p m (m0.w 0) W hM k (by omega) _ rfl hI np hlt hs (bne_iff_ne.2 e0) (by simp [e1]) (by omega), ⟨rfl, .inl rfl⟩, .inl ⟨rfl, rfl, gn, ?_, gww, .inr (.inl ⟨k + 1, rfl, hl, rfl, by omega, rfl, hok'⟩)⟩⟩
          show m.steps + 1 = _; omega
        · refine ⟨_, _, _, _, _, _, AdvStep1_last_same th sl ch wo ge sp tr who g gw gh p m (m0.w 0) W hM k (by omega) _ rfl hI np hlt hs (bne_iff_ne.2 e0) (by simp [e1]) (by omega), ⟨rfl, .inl rfl⟩, .inl ⟨rfl, rfl, gn, ?_, gww, .inr (.inr ⟨by omega, rfl, rfl, fun j hj => hok' j (by omega)⟩)⟩⟩
          show m.steps + 1 = _; omega
      · refine ⟨_, _, _, _, _, _, AdvStep1_stop th sl ch wo ge sp tr who g gw gh p m (m0.w 0) W hM k (by omega) _ rfl hI np hlt hs (bne_iff_ne.2 e0) (bne_iff_ne.2 e1), ⟨rfl, .inl rfl⟩, .inr ⟨rfl, gn, ?_, ?_, fun j _ => congrFun gww j, .inr ⟨rfl, fun h => ?_, congrFun gww 0⟩⟩⟩
        · show _ ≤ m.steps + 1; omega
        · show m.steps + 1 ≤ _; omega
        · rcases h k hk with h | h
          · exact e0 (hw.trans h)
          · exact e1 (hw.trans h)
  · refine ⟨_, _, _, _, _, _, AdvStep2 th sl ch wo ge sp tr who g gw gh p m (m0.w 0) at_ W hM _ rfl (by rw [gww]) hI np (by omega) hs, ⟨rfl, .inr rfl⟩, .inr ⟨rfl, gn, ?_, ?_, fun j hj => ?_, .inl ⟨rfl, hok, ?_⟩⟩⟩
    · show _ ≤ m.steps + 1; omega
    · show m.steps + 1 ≤ _; omega
    · show upd m.w 0 _ j = _
      unfold upd; rw [if_neg hj, gww]
    · exact upd_same m.w 0 (IntKind.u64.wrap (m0.w 0 + 1))

/-- What holds ahead of the k-th pin. -/
structure PS (k : Nat) (m : Ms) : Prop where
  n : m.n = 78
  st : m.steps ≤ 4 + k
  w0 : m.w 0 = 0
  pins : ∀ j, j < 4 → m.w (6 + j) = 0 ∨ m.w (6 + j) = 1
  w14 : m.w 14 = 0
theorem PS.next {k : Nat} {m : Ms} {v : Int} (h : PS k m) (hk : k < 4) (hv : v = 0 ∨ v = 1) : PS (k + 1) ((m.step (6 + k)).set (6 + k) v) := by
  have e1 : ∀ j, j ≠ 6 + k → ((m.step (6 + k)).set (6 + k) v).w j = m.w j := fun j hj => upd_other m.w (6 + k) j v hj
  refine ⟨h.n, ?_, (e1 0 (by omega)).trans h.w0, fun j hj => ?_, (e1 14 (by omega)).trans h.w14⟩
  · have := h.st
    show m.steps + 1 ≤ _; omega
  · by_cases e : j = k
    · subst e
      rw [show ((m.step (6 + j)).set (6 + j) v).w (6 + j) = v from upd_same m.w (6 + j) v]; exact hv
    · rw [e1 _ (by omega)]; exact h.pins j hj
/-- What holds ahead of the k-th step of what settles. -/
structure QS (u : Int) (k : Nat) (m : Ms) (pc wv since at_ : Int) : Prop where
  n : m.n = 78
  st : m.steps ≤ 40 + k
  w0 : m.w 0 = 9
  w12 : m.w 12 = 3 + 256 * u
  w14 : m.w 14 = 0
  s : (k = 0 ∧ pc = 0 ∧ wv = 0 ∧ since = 0 ∧ at_ = 0) ∨ (k = 1 ∧ pc = 1 ∧ wv = 3 + 256 * u ∧ since = 0 ∧ at_ = 0) ∨ (k = 2 ∧ pc = 2 ∧ wv = 3 + 256 * u ∧ since = 0 ∧ at_ = 0) ∨
    (∃ i : Nat, k = 3 + i ∧ (i : Int) < u ∧ pc = 3 ∧ wv = 3 + 256 * u ∧ at_ = (i : Int)) ∨ ((k : Int) = 3 + u ∧ pc = 4 ∧ wv = 3 + 256 * u) ∨ ((k : Int) = 4 + u ∧ pc = 5 ∧ wv = 3 + 256 * u)
theorem QS.le {u : Int} {k : Nat} {m : Ms} {pc wv since at_ : Int} (h : QS u k m pc wv since at_) (hu : 1 ≤ u ∧ u ≤ 16) : k ≤ 20 := by
  rcases h.s with h | h | h | ⟨i, h, h2, _⟩ | h | h <;> omega
theorem zdec (u : Int) (hu : 1 ≤ u ∧ u ≤ 16) : Hid (0 ≤ 3 + 256 * u ∧ 3 + 256 * u < 18446744073709551616 ∧ (3 : Int) = (3 + 256 * u) % 4 ∧ (0 : Int) = (3 + 256 * u) / 4 % 64 ∧ u = (3 + 256 * u) / 256 % 1048576 ∧ (0 : Int) = (3 + 256 * u) / 268435456 % 68719476736) := by
  show _ ∧ _
  omega
theorem zdec0 : Hid ((0 : Int) ≤ 0 ∧ (0 : Int) < 18446744073709551616 ∧ (0 : Int) = 0 % 4 ∧ (0 : Int) = 0 / 4 % 64 ∧ (0 : Int) = 0 / 256 % 1048576 ∧ (0 : Int) = 0 / 268435456 % 68719476736) := by
  show _ ∧ _
  omega
theorem SetStep_all (u : Int) (hu : 1 ≤ u ∧ u ≤ 16) (g gw gh p k : Nat) (m : Ms) (pc wv since at_ : Int) (W : World) (hM : MemAt W g gw gh m) (hI : SetAt W p pc wv since at_ false) (np : p ≠ g ∧ p ≠ gw ∧ p ≠ gh) (hQ : QS u k m pc wv since at_) :
    ∃ (d : Bool) (m' : Ms) (pc' wv' since' at' : Int) (fr' : Bool), m'.steps = m.steps + 1 ∧ (∃ a : Nat, m'.la = (a : Int) ∧ a < 48) ∧ ((d = false ∧ fr' = false ∧ Hid (QS u (k + 1) m' pc' wv' since' at')) ∨ (d = true ∧ fr' = true)) ∧
      Hid (Calls Try.prog 71 #[.pointer (some ⟨p, 0, none⟩), .agg #[.int .i64 4, .int .i64 1, .int .i64 2, .int .i64 30, .int .i64 100, .int .i64 600, .int .i64 3, .pointer (some ⟨g, 0, none⟩), .int .i64 0]] W fun e W' => e = .returned (.bool d) ∧ MemAt W' g gw gh m' ∧ SetAt W' p pc' wv' since' at' fr' ∧ KeepL [p, g, gw, gh] W W') := by
  have hst : m.steps < 4611686018427387904 := by have := hQ.st; have := hQ.le hu; omega
  obtain ⟨qn, qs, q0, q12, q14, hs⟩ := hQ
  have z := zdec u hu
  rcases hs with ⟨rfl, rfl, rfl, rfl, rfl⟩ | ⟨rfl, rfl, rfl, rfl, rfl⟩ | ⟨rfl, rfl, rfl, rfl, rfl⟩ | ⟨i, rfl, hi, rfl, rfl, rfl⟩ | ⟨hk, rfl, rfl⟩ | ⟨hk, rfl, rfl⟩
  · have h := SetStep0 0 g gw gh p m 0 0 0 0 0 0 0 W hM u (by omega) q12 hI np zdec0 (by omega) hst
    rw [q12] at h
    exact ⟨false, m.ld 0 12, 1, 3 + 256 * u, 0, 0, false, rfl, ⟨12, rfl, by omega⟩, .inl ⟨rfl, rfl, qn, by show m.steps + 1 ≤ _; omega, q0, q12, q14, .inr (.inl ⟨rfl, rfl, rfl, rfl, rfl⟩)⟩, h⟩
  · have h := SetStep1 0 g gw gh p m (3 + 256 * u) 0 0 3 0 u 0 W hM hI np z (by omega) hst
    rw [q14] at h
    exact ⟨false, m.ld 0 14, 2, 3 + 256 * u, 0, 0, false, rfl, ⟨14, rfl, by omega⟩, .inl ⟨rfl, rfl, qn, by show m.steps + 1 ≤ _; omega, q0, q12, q14, .inr (.inr (.inl ⟨rfl, rfl, rfl, rfl, rfl⟩))⟩, h⟩
  · have h := SetStep2 0 g gw gh p m (3 + 256 * u) 0 3 0 u 0 W hM q0 hI np z (by omega) hst
    exact ⟨false, m.ld 0 0, 3, 3 + 256 * u, 0, 0, false, rfl, ⟨0, rfl, by omega⟩, .inl ⟨rfl, rfl, qn, by show m.steps + 1 ≤ _; omega, q0, q12, q14, .inr (.inr (.inr (.inl ⟨0, rfl, by omega, rfl, rfl, rfl⟩)))⟩, h⟩
  · have e1 : ∀ j, j ≠ 18 + i → (m.st 0 (18 + i) 0).w j = m.w j := fun j hj => upd_other m.w (18 + i) j 0 hj
    by_cases hl : (i : Int) + 1 < u
    · have h := SetStep3_more 0 g gw gh p m (3 + 256 * u) since 3 0 u 0 W hM i (by omega) hl hI np z (by omega) hst
      exact ⟨false, m.st 0 (18 + i) 0, 3, 3 + 256 * u, since, (i : Int) + 1, false, rfl, ⟨18 + i, rfl, by omega⟩, .inl ⟨rfl, rfl, qn, by show m.steps + 1 ≤ _; omega, (e1 0 (by omega)).trans q0, (e1 12 (by omega)).trans q12, (e1 14 (by omega)).trans q14, .inr (.inr (.inr (.inl ⟨i + 1, by omega, by omega, rfl, rfl, by omega⟩)))⟩, h⟩
    · have h := SetStep3_last 0 g gw gh p m (3 + 256 * u) since 3 0 u 0 W hM i (by omega) (by omega) hI np z (by omega) hst
      exact ⟨false, m.st 0 (18 + i) 0, 4, 3 + 256 * u, since, (i : Int) + 1, false, rfl, ⟨18 + i, rfl, by omega⟩, .inl ⟨rfl, rfl, qn, by show m.steps + 1 ≤ _; omega, (e1 0 (by omega)).trans q0, (e1 12 (by omega)).trans q12, (e1 14 (by omega)).trans q14, .inr (.inr (.inr (.inr (.inl ⟨by omega, rfl, rfl⟩))))⟩, h⟩
  · have e1 : ∀ j, j ≠ 13 → (m.st 0 13 0).w j = m.w j := fun j hj => upd_other m.w 13 j 0 hj
    have h := SetStep4 0 g gw gh p m (3 + 256 * u) since at_ 3 0 u 0 W hM hI np z (by omega) hst
    exact ⟨false, m.st 0 13 0, 5, 3 + 256 * u, since, at_, false, rfl, ⟨13, rfl, by omega⟩, .inl ⟨rfl, rfl, qn, by show m.steps + 1 ≤ _; omega, (e1 0 (by omega)).trans q0, (e1 12 (by omega)).trans q12, (e1 14 (by omega)).trans q14, .inr (.inr (.inr (.inr (.inr ⟨by omega, rfl, rfl⟩))))⟩, h⟩
  · have h := SetStep5 0 g gw gh p m (3 + 256 * u) since at_ 3 0 u 0 W hM (by omega) hI np z (by omega) hst
    exact ⟨true, m.st 0 12 (putChunk 0 0 0 (0 + 1)), 5, 3 + 256 * u, since, at_, true, rfl, ⟨12, rfl, by omega⟩, .inr ⟨rfl, rfl⟩, h⟩
theorem LOf_free (a : Nat) (w : World) (h : a < 18) : Calls Try.prog 72 #[.agg #[.int .i64 4, .int .i64 1, .int .i64 2, .int .i64 30, .int .i64 100, .int .i64 600, .int .i64 3], .int .i64 a] w fun e w' => e = .returned (.int .i64 (-1)) ∧ Below w.heap.size w w' := by
  have ha : (a : Int) < 18 := by omega
  go_enter Try.func72, Try.ntmps72
  go_wp2_with fail
  refine (LB0 _).mono ?_
  rintro e w1 ⟨rfl, hb⟩
  go_wp2
  go_ret
  exact ⟨rfl, (below_new _ _).trans (hb.mono (by simp))⟩
theorem LL0 (w : World) : Calls Try.prog 86 #[.agg #[.int .i64 4, .int .i64 1, .int .i64 2, .int .i64 30, .int .i64 100, .int .i64 600, .int .i64 3]] w fun e w' => e = .returned (.int .i64 78) ∧ Below w.heap.size w w' :=
  LLen_any 4 1 2 30 100 600 3 60 w (by omega) (by omega) (by omega) (by omega) (by omega)
theorem LOf_first (a : Nat) (w : World) (h : 18 ≤ a) (h2 : a < 48) : Calls Try.prog 72 #[.agg #[.int .i64 4, .int .i64 1, .int .i64 2, .int .i64 30, .int .i64 100, .int .i64 600, .int .i64 3], .int .i64 a] w fun e w' => e = .returned (.int .i64 0) ∧ Below w.heap.size w w' := by
  have ha : 18 ≤ (a : Int) := by omega
  have ha2 : (a : Int) < 78 := by omega
  have hw : IntKind.i64.wrap ((a : Int) - 18) = (a : Int) - 18 := by rw [IntWalk.i64_left]; exact IntWalk.wrap64_in _ ⟨by omega, by omega⟩
  go_enter Try.func72, Try.ntmps72
  go_wp2_with fail
  refine (LB0 _).mono ?_
  rintro e w1 ⟨rfl, hb⟩
  have hk : w1.heap[w.heap.size]? = some (.cells #[.int .i64 4, .int .i64 1, .int .i64 2, .int .i64 30, .int .i64 100, .int .i64 600, .int .i64 3] 85 (0, 0)) := by
    rw [hb.block _ (by simp)]; exact heap_alloc_new w _
  have i0 := cell_of_row _ w.heap.size 0 _ _ _ hk
  have i1 := cell_of_row _ w.heap.size 1 _ _ _ hk
  have i2 := cell_of_row _ w.heap.size 2 _ _ _ hk
  have i3 := cell_of_row _ w.heap.size 3 _ _ _ hk
  have i4 := cell_of_row _ w.heap.size 4 _ _ _ hk
  have i5 := cell_of_row _ w.heap.size 5 _ _ _ hk
  have i6 := cell_of_row _ w.heap.size 6 _ _ _ hk
  go_wp2_with fail
  refine (LL0 _).mono ?_
  rintro e w2 ⟨rfl, hb2⟩
  have ho : w2.heap[w.heap.size]? = some (.cells #[.int .i64 4, .int .i64 1, .int .i64 2, .int .i64 30, .int .i64 100, .int .i64 600, .int .i64 3] 85 (0, 0)) := by
    rw [hb2.block _ (by have := hb.size; simp at this; omega), hb.block _ (by simp)]; exact heap_alloc_new w _
  have o3 := cell_of_row _ w.heap.size 3 _ _ _ ho
  have hq : ((a : Int) - 18).tdiv 30 = 0 := Int.tdiv_eq_zero_of_lt (by omega) (by omega)
  go_wp2
  go_ret
  exact ⟨rfl, ((below_new _ _).trans (hb.mono (by simp))).trans (hb2.mono (by have := hb.size; simp at this; omega))⟩

theorem fieldTouch0 (w : World) (a b : Int) (c : Bool) : (Instr.field 79 (.agg #[.int .i64 a, .int .i64 b, .bool c]) 0).run Try.prog w = .ok (.int .i64 a) w := by kernel_rfl
theorem fieldTouch2 (w : World) (a b : Int) (c : Bool) : (Instr.field 79 (.agg #[.int .i64 a, .int .i64 b, .bool c]) 2).run Try.prog w = .ok (.bool c) w := by kernel_rfl
theorem NewSettle_any (w : World) : Calls Try.prog 70 #[.int .i64 0] w fun e w' => e = .returned (.pointer (some ⟨w.heap.size, 0, none⟩)) ∧ w' = w.alloc (.cells #[.int .i64 0, .int .i64 0, .int .u64 0, .int .u64 0, .int .i64 0, .bool false] 122) := by
  go_enter Try.func70, Try.ntmps70
  go_wp2
  go_ret
  exact ⟨rfl, rfl⟩
theorem put3 (u : Int) (h1 : 1 ≤ u) (h2 : u ≤ 16) : putChunk 3 0 u 0 = 3 + 256 * u := by
  unfold putChunk
  rw [fitI_in 3 3 (by omega) (by omega), fitI_in 0 63 (by omega) (by omega), fitI_in u 1048575 (by omega) (by omega), fitI_in 0 68719476735 (by omega) (by omega)]
  omega
theorem LOf_any (a : Nat) (h : a < 48) : ∃ r : Int, (r = 0 ∨ r = -1) ∧ Hid (∀ w, Calls Try.prog 72 #[.agg #[.int .i64 4, .int .i64 1, .int .i64 2, .int .i64 30, .int .i64 100, .int .i64 600, .int .i64 3], .int .i64 a] w fun e w' => e = .returned (.int .i64 r) ∧ Below w.heap.size w w') := by
  by_cases h2 : a < 18
  · exact ⟨-1, .inr rfl, fun w => LOf_free a w h2⟩
  · exact ⟨0, .inl rfl, fun w => LOf_first a w (by omega) h⟩
theorem heapDrew {W : World} {b : Nat} {o : Obj} (h : W.heap[b]? = some o) : W.drew.heap[b]? = some o := h
theorem sizeDrew {W : World} {n : Nat} (h : n ≤ W.heap.size) : n ≤ W.drew.heap.size := h
attribute [local go_sem high] fieldTouch0 fieldTouch2 fieldChunk0
set_option maxHeartbeats 8000000 in
set_option maxRecDepth 100000 in
theorem EpochSteps_any (us : Int) (A : Option Addr) (n c : Nat) (l : Nat → Int) (w : World) (hl : Comes w .u64 A n l) :
    Calls Try.prog 23 #[.int .i64 us, .slice A n c] w fun e w' => e = .returned (.bool true) ∧ Below w.heap.size w w' := by
  have HL := Lib.hid hl
  have hn := hl.1
  clear hl
  obtain ⟨v0, ev, bv⟩ : ∃ x : Int, bits .and .i64 us 15 = x ∧ 0 ≤ x ∧ x ≤ 15 := ⟨_, rfl, andw_bd 4 us 15 .i64 (.inl rfl) (by decide) (by omega)⟩
  obtain ⟨bv0, bv1⟩ := bv
  go_enter Try.func23, Try.ntmps23
  go_wp2_with fail
  refine (Arena_any 4 2 30 _ (by omega) (by omega) (by omega)).mono ?_
  rintro e w1 ⟨g, gw, gh, rfl, hM, hb1, b0, b1, b2⟩
  go_wp2_with fail
  refine (awake13_any _).mono ?_
  rintro e w2 ⟨rfl, hb2⟩
  have hl := hM.lt
  have hlw := hM.ltw
  have hlh := hM.lth
  have np : w1.heap.size ≠ g ∧ w1.heap.size ≠ gw ∧ w1.heap.size ≠ gh := by omega
  clear hl hlw hlh
  have hz1 := hb1.size
  have hX : w2.heap[w1.heap.size]? = some (.cells #[.int .i64 4, .int .i64 1, .int .i64 2, .int .i64 30, .int .i64 100, .int .i64 600, .int .i64 3, .pointer (some ⟨g, 0, none⟩), .int .i64 0] 87 (0, 0)) := by
    rw [hb2.block _ (by simp)]; exact heap_alloc_new w1 _
  have hB : Below w.heap.size w w2 := (hb1.alloc hz1 _).trans (hb2.mono (by simp; omega))
  have hs : w.heap.size ≤ w2.heap.size := by have := hb2.size; simp at this; omega
  replace hM := (hM.below (below_new w1 (.cells #[.int .i64 4, .int .i64 1, .int .i64 2, .int .i64 30, .int .i64 100, .int .i64 600, .int .i64 3, .pointer (some ⟨g, 0, none⟩), .int .i64 0] 87))).below hb2
  clear hb1 hb2
  have HG0 : Hid (PS 0 (freshOne 4 2 30)) := ⟨rfl, by decide, fresh_w 4 2 30 _ (by omega) (by omega) (by omega), fun j hj => .inl (fresh_w 4 2 30 _ (by omega) (by omega) (by omega)), fresh_w 4 2 30 _ (by omega) (by omega) (by omega)⟩
  generalize freshOne 4 2 30 = m0 at hM HG0
  go_wp2_with fail
  go_loopw [7] (fun i wr => ∃ (k : Nat) (m : Ms) (U : World), i = .int .i64 k ∧ k ≤ 4 ∧ U = wr ∧ Hid (PS k m) ∧ MemAt U g gw gh m ∧ U.heap[w1.heap.size]? = some (.cells #[.int .i64 4, .int .i64 1, .int .i64 2, .int .i64 30, .int .i64 100, .int .i64 600, .int .i64 3, .pointer (some ⟨g, 0, none⟩), .int .i64 0] 87 (0, 0)) ∧ Below w.heap.size w U ∧ w.heap.size ≤ U.heap.size) (fun i _ => 4 - (intOf i).toNat)
  case atStart => exact ⟨0, _, _, rfl, by omega, rfl, HG0, hM, hX, hB, hs⟩
  case round =>
    clear HG0 hM hX hB hs
    obtain ⟨k, m, U, rfl, hk4, rfl, hG, hM, hX, hB, hs⟩ := hrel
    have hst : m.steps < 4611686018427386000 := by have := hG.out.st; omega
    by_cases hlt : k < n ∧ k < 4
    · obtain ⟨q1, q2⟩ := hlt
      have q1i : (k : Int) < (n : Int) := by omega
      have q2i : (k : Int) < 4 := by omega
      obtain ⟨b', off, rfl, hb, hc⟩ := HL.out.2 (by omega)
      have HC := Lib.hid (hc k q1)
      clear hc
      have bp := andw_bd 1 (l k) 1 .u64 (.inr rfl) (by decide) (by omega)
      obtain ⟨p0, ep, hp0⟩ : ∃ x : Int, bits .and .u64 (l k) 1 = x ∧ Hid (x = 0 ∨ x = 1) := ⟨_, rfl, (by omega : bits .and .u64 (l k) 1 = 0 ∨ bits .and .u64 (l k) 1 = 1)⟩
      clear bp
      have HK6 : Hid (6 + (k : Int) = ((6 + k : Nat) : Int)) := by show 6 + (k : Int) = ((6 + k : Nat) : Int); omega
      have hmn : 6 + k < m.n := by have := hG.out.n; omega
      go_wp2
      replace hB := hB.drew
      replace hM := hM.drew
      replace hX : U.drew.heap[w1.heap.size]? = _ := hX
      replace hs : w.heap.size ≤ U.drew.heap.size := hs
      (first | (go_region_held3 (fun w' => w'.cell? ⟨w1.heap.size, 7, none⟩ = some (.pointer (some ⟨g, 0, none⟩)) ∧ w'.cell? ⟨b', off + k, none⟩ = some (.int .u64 (l k)))
        (exact ⟨cell_of_row _ w1.heap.size 7 _ _ _ hX, (hB.cell hb).trans HC.out⟩)
        (first
        | (go_at_call 61; refine (LPin_any k _ (by omega) (by omega)).mono ?_; rintro e w7 ⟨rfl, hw⟩; obtain rfl := hw.symm; clear hw)
        | (go_at_call 51; rw [HK6.out]; refine (Store_yes g gw gh m (6 + k) p0 _ hM hmn (by omega) (by have := hp0.out; omega)).mono ?_; rintro e w8 ⟨rfl, hM8, hK8⟩; replace hX := hK8.heap hX np.1 np.2.1 np.2.2; replace hB := hB.trans (hK8.below b0 b1 b2 hs); replace hs := Nat.le_trans hs hK8.size; replace hM := hM8; clear hM8 hK8))) | fail)
      all_goals
        have HG1 := Lib.hid (hG.out.next q2 hp0.out)
        go_wp2
        go_roundw
        case rel => exact ⟨k + 1, _, _, by go_num, by omega, rfl, HG1, hM, hX, hB, hs⟩
        case measure => simp [intOf]; omega
    · rcases (by omega : n ≤ k ∨ (k < n ∧ 4 ≤ k)) with q1 | ⟨q1, q2⟩
      · clear hlt
        have hG0 : Hid (AGood 4 m 0 m 0 0 0) := ⟨rfl, by omega, rfl, .inl ⟨rfl, rfl, rfl⟩⟩
        have hPP := hX
        have hI : AdvAt (U.alloc (.cells #[.int .i64 0, .int .u64 0, .int .i64 0, .bool false] 107)) U.heap.size 0 0 0 false := heap_alloc_new U _
        have npP : U.heap.size ≠ g ∧ U.heap.size ≠ gw ∧ U.heap.size ≠ gh := by have := hM.lt; have := hM.ltw; have := hM.lth; omega
        have hnx : w1.heap.size ∉ [U.heap.size, g, gw, gh] := by have := lt_of_heap hX; simp; omega
        have hbl : ∀ k ∈ [U.heap.size, g, gw, gh], w.heap.size ≤ k := by simp; omega
        have hb := below_new U (.cells #[.int .i64 0, .int .u64 0, .int .i64 0, .bool false] 107)
        have hM2 := hM.below hb
        have hX2 := (hb.block _ (by exact lt_of_heap hX)).trans hX
        have hB2 := hB.trans (hb.mono hs)
        have hs2 := Nat.le_trans hs hb.size
        clear hb hPP
        go_wp2_with fail
        clear hM hX hB hs
        generalize U.alloc (.cells #[.int .i64 0, .int .u64 0, .int .i64 0, .bool false] 107) = U2 at hI hM2 hX2 hB2 hs2 ⊢
        generalize U.heap.size = P at hI npP hnx hbl ⊢
        go_loopw [9, 10, 11] (fun i _ _ wr => ∃ (k2 : Nat) (m1 : Ms) (pc now at_ : Int) (U : World), i = .int .i64 k2 ∧ U = wr ∧ Hid (AGood 4 m k2 m1 pc now at_) ∧ MemAt U g gw gh m1 ∧ AdvAt U P pc now at_ false ∧ U.heap[w1.heap.size]? = some (.cells #[.int .i64 4, .int .i64 1, .int .i64 2, .int .i64 30, .int .i64 100, .int .i64 600, .int .i64 3, .pointer (some ⟨g, 0, none⟩), .int .i64 0] 87 (0, 0)) ∧ Below w.heap.size w U ∧ w.heap.size ≤ U.heap.size) (fun i _ _ _ => 20 - (intOf i).toNat)
        case atStart => exact ⟨0, _, 0, 0, 0, _, rfl, rfl, hG0, hM2, hI, hX2, hB2, hs2⟩
        case round =>
          clear hG0 hM2 hI hX2 hB2 hs2
          obtain ⟨k2, m1, pc, now, at_, V, rfl, rfl, hA, hM, hI, hX, hB, hs⟩ := hrel
          have hk2 : k2 ≤ 5 := by have := hA.out.le; omega
          have hk2i : (k2 : Int) < 20 := by omega
          have hst1 : m1.steps < 4611686018427387904 := by have := hA.out.steps; omega
          have hst0 := hM.st0
          obtain ⟨c0, c1, c2, c3, c4, c5, c6, c7, c8⟩ := env_cells hX
          go_wp2_with fail
          refine (ENow 4 1 2 30 100 600 3 0 g gw gh m1 _ hM).mono ?_
          rintro e V2 ⟨rfl, hb⟩
          replace hM := hM.below hb
          replace hX := (hb.block _ (by exact lt_of_heap hX)).trans hX
          replace hI : AdvAt _ P _ _ _ _ := (hb.block _ (by exact lt_of_heap hI)).trans hI
          replace hB := hB.trans (hb.mono hs)
          replace hs := Nat.le_trans hs hb.size
          clear hb c0 c1 c2 c3 c4 c5 c6 c7 c8
          obtain ⟨c0, c1, c2, c3, c4, c5, c6, c7, c8⟩ := env_cells hX
          obtain ⟨d, m2, pc', now', at', went', HC, ⟨hst2, hlc⟩, hd⟩ := AdvStep_all2 4 1 2 30 100 600 3 0 g gw gh P m m1 k2 pc now at_ _ hM hI npP (by omega) (by have := hG.out.n; omega) hst1 hA.out
          go_wp2_with fail
          refine HC.out.mono ?_
          rintro e w9 ⟨rfl, hM9, hI9, hK9⟩
          have hX9 := hK9.heap hX hnx
          have hB9 := hB.trans (hK9.below hbl hs)
          have hs9 := Nat.le_trans hs hK9.size
          clear hK9 HC hM hI hX hB hs c0 c1 c2 c3 c4 c5 c6 c7 c8
          have hM := hM9
          have hI := hI9
          have hX := hX9
          have hB := hB9
          have hs := hs9
          clear hM9 hI9 hX9 hB9 hs9
          have hwr : IntKind.i64.wrap (m1.steps + 1) = m1.steps + 1 := by rw [IntWalk.i64_left]; exact IntWalk.wrap64_in _ ⟨by omega, by omega⟩
          have HNow : Hid (∀ W, MemAt W g gw gh m2 → Calls Try.prog 66 #[.agg #[.int .i64 4, .int .i64 1, .int .i64 2, .int .i64 30, .int .i64 100, .int .i64 600, .int .i64 3, .pointer (some ⟨g, 0, none⟩), .int .i64 0]] W fun e W' => e = .returned (.int .i64 (m1.steps + 1)) ∧ Below W.heap.size W W') := by
            intro W h
            have := ENow 4 1 2 30 100 600 3 0 g gw gh m2 W h
            rw [hst2] at this; exact this
          have HD := Lib.hid hd
          have hlc2 : m2.lc = false ∨ (m2.lc = true ∧ m2.la = 0) := by
            cases hlc' : m2.lc
            · exact .inl rfl
            · rcases hlc with h | h
              · rw [hlc'] at h; cases h
              · exact .inr ⟨rfl, h⟩
          clear hd hlc hst2
          obtain ⟨c0, c1, c2, c3, c4, c5, c6, c7, c8⟩ := env_cells hX
          go_wp2_with fail
          refine (HNow.out _ hM).mono ?_
          rintro e V3 ⟨rfl, hb⟩
          replace hM := hM.below hb
          replace hX := (hb.block _ (by exact lt_of_heap hX)).trans hX
          replace hI : AdvAt _ P _ _ _ _ := (hb.block _ (by exact lt_of_heap hI)).trans hI
          replace hB := hB.trans (hb.mono hs)
          replace hs := Nat.le_trans hs hb.size
          clear hb c0 c1 c2 c3 c4 c5 c6 c7 c8
          obtain ⟨c0, c1, c2, c3, c4, c5, c6, c7, c8⟩ := env_cells hX
          rcases hlc2 with h | ⟨h, h0⟩
          · have HLast : Hid (∀ W, MemAt W g gw gh m2 → Calls Try.prog 55 #[.pointer (some ⟨g, 0, none⟩)] W fun e W' => e = .returned (.agg #[.int .i64 m2.la, .int .i64 m2.lw, .bool false]) ∧ Below W.heap.size W W') := by
              intro W hW
              have := Last_any g gw gh m2 W hW
              rw [h] at this; exact this
            clear h
            go_wp2_with fail
            refine (HLast.out _ hM).mono ?_
            rintro e V4 ⟨rfl, hb⟩
            replace hM := hM.below hb
            replace hX := (hb.block _ (by exact lt_of_heap hX)).trans hX
            replace hI : AdvAt _ P _ _ _ _ := (hb.block _ (by exact lt_of_heap hI)).trans hI
            replace hB := hB.trans (hb.mono hs)
            replace hs := Nat.le_trans hs hb.size
            clear hb c0 c1 c2 c3 c4 c5 c6 c7 c8
            rcases HD.out with ⟨rfl, rfl, hA'⟩ | ⟨rfl, hE⟩
            · have HA' := Lib.hid hA'
              clear hA' HD
              go_wp2
              go_roundw
              case rel => exact ⟨k2 + 1, m2, pc', now', at', _, by go_num, rfl, HA', hM, hI, hX, hB, hs⟩
              case measure => simp [intOf]; omega
            · have HE := Lib.hid hE
              clear hE HD
              go_wp2
              as_aux_lemma =>
                have HF : Hid (m2.n = 78 ∧ m2.steps ≤ 20 ∧ m2.w 14 = 0) := ⟨HE.out.n.trans hG.out.n, by have := HE.out.hi; have := hG.out.st; omega, (HE.out.w 14 (by omega)).trans hG.out.w14⟩
                obtain ⟨u, hu, hu1, hu2⟩ : ∃ u : Int, 1 + v0 = u ∧ 1 ≤ u ∧ u ≤ 16 := ⟨_, rfl, by omega, by omega⟩
                have hwu : IntKind.i64.wrap u = u := by rw [IntWalk.i64_left]; exact IntWalk.wrap64_in _ ⟨by omega, by omega⟩
                have HPC : Hid (∀ W, Calls Try.prog 34 #[.agg #[.int .i64 3, .int .i64 0, .int .i64 u, .int .i64 0]] W fun e w' => e = .returned (.int .u64 (3 + 256 * u)) ∧ Below W.heap.size W w') := by
                  intro W
                  have h := PutChunk_any 3 0 u 0 W
                  rw [put3 u hu1 hu2] at h
                  exact h
                clear hI HE hst0 hwr HNow HLast hnx npP hbl hst
                replace hM := hM.drew
                replace hB := hB.drew
                replace hX := heapDrew hX
                replace hs := sizeDrew hs
                (first | (go_region_held3 (fun w' => w'.cell? ⟨w1.heap.size, 0, none⟩ = some (.int .i64 4) ∧ w'.cell? ⟨w1.heap.size, 1, none⟩ = some (.int .i64 1) ∧ w'.cell? ⟨w1.heap.size, 2, none⟩ = some (.int .i64 2) ∧ w'.cell? ⟨w1.heap.size, 3, none⟩ = some (.int .i64 30) ∧ w'.cell? ⟨w1.heap.size, 4, none⟩ = some (.int .i64 100) ∧ w'.cell? ⟨w1.heap.size, 5, none⟩ = some (.int .i64 600) ∧ w'.cell? ⟨w1.heap.size, 6, none⟩ = some (.int .i64 3) ∧ w'.cell? ⟨w1.heap.size, 7, none⟩ = some (.pointer (some ⟨g, 0, none⟩)) ∧ w'.cell? ⟨w1.heap.size, 8, none⟩ = some (.int .i64 0))
                  (exact ⟨cell_of_row _ w1.heap.size 0 _ _ _ hX, cell_of_row _ w1.heap.size 1 _ _ _ hX, cell_of_row _ w1.heap.size 2 _ _ _ hX, cell_of_row _ w1.heap.size 3 _ _ _ hX, cell_of_row _ w1.heap.size 4 _ _ _ hX, cell_of_row _ w1.heap.size 5 _ _ _ hX, cell_of_row _ w1.heap.size 6 _ _ _ hX, cell_of_row _ w1.heap.size 7 _ _ _ hX, cell_of_row _ w1.heap.size 8 _ _ _ hX⟩)
                  (first
                    | (go_at_call 69; refine (LC0 _).mono ?_; rintro e w5 ⟨rfl, hb⟩; replace hM := hM.below hb; replace hX := (hb.block _ (by exact lt_of_heap hX)).trans hX; replace hB := hB.trans (hb.mono hs); replace hs := Nat.le_trans hs hb.size; clear hb)
                    | (go_at_call 34; refine (HPC.out _).mono ?_; rintro e w5 ⟨rfl, hb⟩; replace hM := hM.below hb; replace hX := (hb.block _ (by exact lt_of_heap hX)).trans hX; replace hB := hB.trans (hb.mono hs); replace hs := Nat.le_trans hs hb.size; clear hb)
                    | (go_at_call 51; refine (Store_yes g gw gh m2 12 (3 + 256 * u) _ hM (by rw [HF.out.1]; omega) (by have := HF.out.2.1; omega) (by omega)).mono ?_; rintro e w5 ⟨rfl, hM5, hK⟩; replace hX := hK.heap hX np.1 np.2.1 np.2.2; replace hB := hB.trans (hK.below b0 b1 b2 hs); replace hs := Nat.le_trans hs hK.size; replace hM := hM5; clear hM5 hK))) | fail)
                have HF3 : Hid (((m2.step 12).set 12 (3 + 256 * u)).n = 78 ∧ ((m2.step 12).set 12 (3 + 256 * u)).steps ≤ 21 ∧ ((m2.step 12).set 12 (3 + 256 * u)).w 14 = 0 ∧ ((m2.step 12).set 12 (3 + 256 * u)).w 12 = 3 + 256 * u) := ⟨HF.out.1, by have := HF.out.2.1; show m2.steps + 1 ≤ 21; omega, (upd_other m2.w 12 14 (3 + 256 * u) (by omega)).trans HF.out.2.2, upd_same m2.w 12 (3 + 256 * u)⟩
                clear HF hu hwu HPC
                generalize (m2.step 12).set 12 (3 + 256 * u) = m3 at hM HF3
                have c7 := cell_of_row _ w1.heap.size 7 _ _ _ hX
                go_wp2
                clear c7
                replace hM := hM.drew
                replace hB := hB.drew
                replace hX := heapDrew hX
                replace hs := sizeDrew hs
                (first | (go_region_held3 (fun w' => w'.cell? ⟨w1.heap.size, 0, none⟩ = some (.int .i64 4) ∧ w'.cell? ⟨w1.heap.size, 1, none⟩ = some (.int .i64 1) ∧ w'.cell? ⟨w1.heap.size, 2, none⟩ = some (.int .i64 2) ∧ w'.cell? ⟨w1.heap.size, 3, none⟩ = some (.int .i64 30) ∧ w'.cell? ⟨w1.heap.size, 4, none⟩ = some (.int .i64 100) ∧ w'.cell? ⟨w1.heap.size, 5, none⟩ = some (.int .i64 600) ∧ w'.cell? ⟨w1.heap.size, 6, none⟩ = some (.int .i64 3) ∧ w'.cell? ⟨w1.heap.size, 7, none⟩ = some (.pointer (some ⟨g, 0, none⟩)) ∧ w'.cell? ⟨w1.heap.size, 8, none⟩ = some (.int .i64 0))
                  (exact ⟨cell_of_row _ w1.heap.size 0 _ _ _ hX, cell_of_row _ w1.heap.size 1 _ _ _ hX, cell_of_row _ w1.heap.size 2 _ _ _ hX, cell_of_row _ w1.heap.size 3 _ _ _ hX, cell_of_row _ w1.heap.size 4 _ _ _ hX, cell_of_row _ w1.heap.size 5 _ _ _ hX, cell_of_row _ w1.heap.size 6 _ _ _ hX, cell_of_row _ w1.heap.size 7 _ _ _ hX, cell_of_row _ w1.heap.size 8 _ _ _ hX⟩)
                  (first
                    | (go_at_call 62; refine (LEpoch_any _).mono ?_; rintro e w5 ⟨rfl, hw5⟩; obtain rfl := hw5.symm; clear hw5)
                    | (go_at_call 51; refine (Store_yes g gw gh m3 0 9 _ hM (by rw [HF3.out.1]; omega) (by have := HF3.out.2.1; omega) (by omega)).mono ?_; rintro e wS ⟨rfl, hM5, hK⟩; replace hX := hK.heap hX np.1 np.2.1 np.2.2; replace hB := hB.trans (hK.below b0 b1 b2 hs); replace hs := Nat.le_trans hs hK.size; replace hM := hM5; clear hM5 hK))) | fail)
                have HQ0 : Hid (QS u 0 ((m3.step 0).set 0 9) 0 0 0 0) := ⟨HF3.out.1, by have := HF3.out.2.1; show m3.steps + 1 ≤ _; omega, upd_same m3.w 0 9, (upd_other m3.w 0 12 9 (by omega)).trans HF3.out.2.2.2, (upd_other m3.w 0 14 9 (by omega)).trans HF3.out.2.2.1, .inl ⟨rfl, rfl, rfl, rfl, rfl⟩⟩
                clear HF3
                generalize (m3.step 0).set 0 9 = m4 at hM HQ0
                go_wp2_with fail
                refine (NewSettle_any _).mono ?_
                rintro e w5 ⟨rfl, rfl⟩
                have hI : SetAt (wS.alloc (.cells #[.int .i64 0, .int .i64 0, .int .u64 0, .int .u64 0, .int .i64 0, .bool false] 122)) wS.heap.size 0 0 0 0 false := heap_alloc_new wS _
                have hb := below_new wS (.cells #[.int .i64 0, .int .i64 0, .int .u64 0, .int .u64 0, .int .i64 0, .bool false] 122)
                have npP : wS.heap.size ≠ g ∧ wS.heap.size ≠ gw ∧ wS.heap.size ≠ gh := by have := hM.lt; have := hM.ltw; have := hM.lth; omega
                have hnx : w1.heap.size ∉ [wS.heap.size, g, gw, gh] := by have := lt_of_heap hX; simp; omega
                have hbl : ∀ k ∈ [wS.heap.size, g, gw, gh], w.heap.size ≤ k := by simp; omega
                replace hM := hM.below hb
                replace hX := (hb.block _ (by exact lt_of_heap hX)).trans hX
                replace hB := hB.trans (hb.mono hs)
                replace hs := Nat.le_trans hs hb.size
                clear hb
                generalize wS.alloc (.cells #[.int .i64 0, .int .i64 0, .int .u64 0, .int .u64 0, .int .i64 0, .bool false] 122) = U4 at hI hM hX hB hs ⊢
                generalize wS.heap.size = P2 at hI npP hnx hbl ⊢
                go_wp2_with fail
                go_loopw [13] (fun i wr => ∃ (k3 : Nat) (m5 : Ms) (pc wv since at_ : Int) (U : World), i = .int .i64 k3 ∧ U = wr ∧ Hid (QS u k3 m5 pc wv since at_) ∧ MemAt U g gw gh m5 ∧ SetAt U P2 pc wv since at_ false ∧ U.heap[w1.heap.size]? = some (.cells #[.int .i64 4, .int .i64 1, .int .i64 2, .int .i64 30, .int .i64 100, .int .i64 600, .int .i64 3, .pointer (some ⟨g, 0, none⟩), .int .i64 0] 87 (0, 0)) ∧ Below w.heap.size w U ∧ w.heap.size ≤ U.heap.size) (fun i _ => 60 - (intOf i).toNat)
                case atStart => exact ⟨0, _, 0, 0, 0, 0, _, rfl, rfl, HQ0, hM, hI, hX, hB, hs⟩
                case round =>
                  clear HQ0 hM hI hX hB hs
                  obtain ⟨k3, m5, pcs, wvs, sis, ats, V9, rfl, rfl, hQ, hM, hI, hX, hB, hs⟩ := hrel
                  have hk3 : k3 ≤ 20 := hQ.out.le ⟨hu1, hu2⟩
                  have hk3i : (k3 : Int) < 60 := by omega
                  have hst5 := hM.st0
                  have hst6 : m5.steps ≤ 100 := by have := hQ.out.st; omega
                  have hwr5 : IntKind.i64.wrap (m5.steps + 1) = m5.steps + 1 := by rw [IntWalk.i64_left]; exact IntWalk.wrap64_in _ ⟨by omega, by omega⟩
                  have HN12 : Hid (12 < m5.n) := by have := hQ.out.n; show 12 < m5.n; omega
                  go_wp2
                  replace hM := hM.drew
                  replace hB := hB.drew
                  replace hX : V9.drew.heap[w1.heap.size]? = _ := hX
                  replace hI : SetAt V9.drew P2 _ _ _ _ _ := hI
                  replace hs : w.heap.size ≤ V9.drew.heap.size := hs
                  (first | (go_region_held3 (fun w' => w'.cell? ⟨w1.heap.size, 0, none⟩ = some (.int .i64 4) ∧ w'.cell? ⟨w1.heap.size, 1, none⟩ = some (.int .i64 1) ∧ w'.cell? ⟨w1.heap.size, 2, none⟩ = some (.int .i64 2) ∧ w'.cell? ⟨w1.heap.size, 3, none⟩ = some (.int .i64 30) ∧ w'.cell? ⟨w1.heap.size, 4, none⟩ = some (.int .i64 100) ∧ w'.cell? ⟨w1.heap.size, 5, none⟩ = some (.int .i64 600) ∧ w'.cell? ⟨w1.heap.size, 6, none⟩ = some (.int .i64 3) ∧ w'.cell? ⟨w1.heap.size, 7, none⟩ = some (.pointer (some ⟨g, 0, none⟩)) ∧ w'.cell? ⟨w1.heap.size, 8, none⟩ = some (.int .i64 0))
                    (exact ⟨cell_of_row _ w1.heap.size 0 _ _ _ hX, cell_of_row _ w1.heap.size 1 _ _ _ hX, cell_of_row _ w1.heap.size 2 _ _ _ hX, cell_of_row _ w1.heap.size 3 _ _ _ hX, cell_of_row _ w1.heap.size 4 _ _ _ hX, cell_of_row _ w1.heap.size 5 _ _ _ hX, cell_of_row _ w1.heap.size 6 _ _ _ hX, cell_of_row _ w1.heap.size 7 _ _ _ hX, cell_of_row _ w1.heap.size 8 _ _ _ hX⟩)
                    (first
                      | (go_at_call 66; refine (ENow 4 1 2 30 100 600 3 0 g gw gh m5 _ hM).mono ?_; rintro e w5 ⟨rfl, hb⟩; replace hM := hM.below hb; replace hX := (hb.block _ (by exact lt_of_heap hX)).trans hX; replace hI : SetAt _ P2 _ _ _ _ _ := (hb.block _ (by exact lt_of_heap hI)).trans hI; replace hB := hB.trans (hb.mono hs); replace hs := Nat.le_trans hs hb.size; clear hb)
                      | (go_at_call 69; refine (LC0 _).mono ?_; rintro e w5 ⟨rfl, hb⟩; replace hM := hM.below hb; replace hX := (hb.block _ (by exact lt_of_heap hX)).trans hX; replace hI : SetAt _ P2 _ _ _ _ _ := (hb.block _ (by exact lt_of_heap hI)).trans hI; replace hB := hB.trans (hb.mono hs); replace hs := Nat.le_trans hs hb.size; clear hb)
                      | (go_at_call 49; refine (Peek_val g gw gh m5 12 (3 + 256 * u) _ hM HN12.out hQ.out.w12).mono ?_; rintro e w5 ⟨rfl, hw5⟩; obtain rfl := hw5.symm; clear hw5)
                      | (go_at_call 36; refine (Chunk_at (3 + 256 * u) 3 0 u 0 _ (zdec u ⟨hu1, hu2⟩)).mono ?_; rintro e w5 ⟨rfl, hb⟩; replace hM := hM.below hb; replace hX := (hb.block _ (by exact lt_of_heap hX)).trans hX; replace hI : SetAt _ P2 _ _ _ _ _ := (hb.block _ (by exact lt_of_heap hI)).trans hI; replace hB := hB.trans (hb.mono hs); replace hs := Nat.le_trans hs hb.size; clear hb))) | fail)
                  obtain ⟨d, m6, pc2, wv2, since2, at2, fr2, hst7, ⟨la, hla, hla2⟩, hd, HC⟩ := SetStep_all u ⟨hu1, hu2⟩ g gw gh P2 k3 m5 pcs wvs sis ats _ hM hI npP hQ.out
                  obtain ⟨c0, c1, c2, c3, c4, c5, c6, c7, c8⟩ := env_cells hX
                  go_wp2_with fail
                  refine HC.out.mono ?_
                  rintro e w9 ⟨rfl, hM9, hI9, hK9⟩
                  have hX9 := hK9.heap hX hnx
                  have hB9 := hB.trans (hK9.below hbl hs)
                  have hs9 := Nat.le_trans hs hK9.size
                  clear hK9 HC hM hI hX hB hs c0 c1 c2 c3 c4 c5 c6 c7 c8
                  have hM := hM9
                  have hI := hI9
                  have hX := hX9
                  have hB := hB9
                  have hs := hs9
                  clear hM9 hI9 hX9 hB9 hs9
                  have HNow : Hid (∀ W, MemAt W g gw gh m6 → Calls Try.prog 66 #[.agg #[.int .i64 4, .int .i64 1, .int .i64 2, .int .i64 30, .int .i64 100, .int .i64 600, .int .i64 3, .pointer (some ⟨g, 0, none⟩), .int .i64 0]] W fun e W' => e = .returned (.int .i64 (m5.steps + 1)) ∧ Below W.heap.size W W') := by
                    intro W h
                    have := ENow 4 1 2 30 100 600 3 0 g gw gh m6 W h
                    rw [hst7] at this; exact this
                  have HLast : Hid (∀ W, MemAt W g gw gh m6 → Calls Try.prog 55 #[.pointer (some ⟨g, 0, none⟩)] W fun e W' => e = .returned (.agg #[.int .i64 (la : Nat), .int .i64 m6.lw, .bool m6.lc]) ∧ Below W.heap.size W W') := by
                    intro W h
                    have := Last_any g gw gh m6 W h
                    rw [hla] at this; exact this
                  obtain ⟨r, hr, HOf⟩ := LOf_any la hla2
                  clear hst7 hla hla2
                  go_wp2
                  replace hM := hM.drew
                  replace hB := hB.drew
                  replace hX : w9.drew.heap[w1.heap.size]? = _ := hX
                  replace hI : SetAt w9.drew P2 _ _ _ _ _ := hI
                  replace hs : w.heap.size ≤ w9.drew.heap.size := hs
                  rcases hr with rfl | rfl
                  · skip
                    refine wp_region_noPanic ?_
                    refine wp_region_held_drew (S := (fun w' => w'.cell? ⟨w1.heap.size, 0, none⟩ = some (.int .i64 4) ∧ w'.cell? ⟨w1.heap.size, 1, none⟩ = some (.int .i64 1) ∧ w'.cell? ⟨w1.heap.size, 2, none⟩ = some (.int .i64 2) ∧ w'.cell? ⟨w1.heap.size, 3, none⟩ = some (.int .i64 30) ∧ w'.cell? ⟨w1.heap.size, 4, none⟩ = some (.int .i64 100) ∧ w'.cell? ⟨w1.heap.size, 5, none⟩ = some (.int .i64 600) ∧ w'.cell? ⟨w1.heap.size, 6, none⟩ = some (.int .i64 3) ∧ w'.cell? ⟨w1.heap.size, 7, none⟩ = some (.pointer (some ⟨g, 0, none⟩)) ∧ w'.cell? ⟨w1.heap.size, 8, none⟩ = some (.int .i64 0))) (by kernel_rfl) (by exact ⟨cell_of_row _ w1.heap.size 0 _ _ _ hX, cell_of_row _ w1.heap.size 1 _ _ _ hX, cell_of_row _ w1.heap.size 2 _ _ _ hX, cell_of_row _ w1.heap.size 3 _ _ _ hX, cell_of_row _ w1.heap.size 4 _ _ _ hX, cell_of_row _ w1.heap.size 5 _ _ _ hX, cell_of_row _ w1.heap.size 6 _ _ _ hX, cell_of_row _ w1.heap.size 7 _ _ _ hX, cell_of_row _ w1.heap.size 8 _ _ _ hX⟩) (fun hH => ?_)
                    refine take_at (i := 0) (v := ?_) rfl (by kernel_rfl) (by kernel_rfl) (by kernel_rfl) (fun _ _ _ h => h) (Or.inl ⟨by rfl, ?_⟩) hH ?_
                    rotate_left
                    · (intro w hSw; (try dsimp only at hSw); go_simp; (try with_reducible rfl))
                    (try simp only [Act.put, List.setIfInBounds_toArray, List.set_cons_zero, List.set_cons_succ])
                    refine take_at (i := 2) (v := ?_) rfl (by kernel_rfl) (by kernel_rfl) (by kernel_rfl) (fun _ _ _ h => h) (Or.inl ⟨by rfl, ?_⟩) hH ?_
                    rotate_left
                    · (intro w hSw; (try dsimp only at hSw); go_simp; (try with_reducible rfl))
                    (try simp only [Act.put, List.setIfInBounds_toArray, List.set_cons_zero, List.set_cons_succ])
                    refine take_at (i := 3) (v := ?_) rfl (by kernel_rfl) (by kernel_rfl) (by kernel_rfl) (fun _ _ _ h => h) (Or.inl ⟨by rfl, ?_⟩) hH ?_
                    rotate_left
                    · (intro w hSw; (try dsimp only at hSw); go_simp; (try with_reducible rfl))
                    (try simp only [Act.put, List.setIfInBounds_toArray, List.set_cons_zero, List.set_cons_succ])
                    refine wpAnyH_ready (rs := [1]) (by kernel_rfl) (by simp) ?_
                    refine cons_at rfl (fun K hK => ?_) AllReadyH.nil
                    go_simp
                    go_at_call 66
                    refine (HNow.out _ hM).mono ?_
                    rintro e w5 ⟨rfl, hb⟩
                    replace hM := hM.below hb
                    replace hX := (hb.block _ (by exact lt_of_heap hX)).trans hX
                    replace hI : SetAt _ P2 _ _ _ _ _ := (hb.block _ (by exact lt_of_heap hI)).trans hI
                    replace hB := hB.trans (hb.mono hs)
                    replace hs := Nat.le_trans hs hb.size
                    clear hb
                    (try go_wp2_with fail)
                    clear hH
                    refine hK.out _ _ (by exact ⟨cell_of_row _ w1.heap.size 0 _ _ _ hX, cell_of_row _ w1.heap.size 1 _ _ _ hX, cell_of_row _ w1.heap.size 2 _ _ _ hX, cell_of_row _ w1.heap.size 3 _ _ _ hX, cell_of_row _ w1.heap.size 4 _ _ _ hX, cell_of_row _ w1.heap.size 5 _ _ _ hX, cell_of_row _ w1.heap.size 6 _ _ _ hX, cell_of_row _ w1.heap.size 7 _ _ _ hX, cell_of_row _ w1.heap.size 8 _ _ _ hX⟩) (fun hH => ?_)
                    clear hK K
                    (try simp only [Act.put, List.setIfInBounds_toArray, List.set_cons_zero, List.set_cons_succ])
                    refine take_at (i := 4) (v := ?_) rfl (by kernel_rfl) (by kernel_rfl) (by kernel_rfl) (fun _ _ _ h => h) (Or.inl ⟨by rfl, ?_⟩) hH ?_
                    rotate_left
                    · (intro w hSw; (try dsimp only at hSw); go_simp; (try with_reducible rfl))
                    (try simp only [Act.put, List.setIfInBounds_toArray, List.set_cons_zero, List.set_cons_succ])
                    refine take_at (i := 5) (v := ?_) rfl (by kernel_rfl) (by kernel_rfl) (by kernel_rfl) (fun _ _ _ h => h) (Or.inl ⟨by rfl, ?_⟩) hH ?_
                    rotate_left
                    · (intro w hSw; (try dsimp only at hSw); go_simp; (try with_reducible rfl))
                    (try simp only [Act.put, List.setIfInBounds_toArray, List.set_cons_zero, List.set_cons_succ])
                    refine take_at (i := 6) (v := ?_) rfl (by kernel_rfl) (by kernel_rfl) (by kernel_rfl) (fun _ _ _ h => h) (Or.inl ⟨by rfl, ?_⟩) hH ?_
                    rotate_left
                    · (intro w hSw; (try dsimp only at hSw); go_simp; (try with_reducible rfl))
                    (try simp only [Act.put, List.setIfInBounds_toArray, List.set_cons_zero, List.set_cons_succ])
                    refine take_at (i := 7) (v := ?_) rfl (by kernel_rfl) (by kernel_rfl) (by kernel_rfl) (fun _ _ _ h => h) (Or.inl ⟨by rfl, ?_⟩) hH ?_
                    rotate_left
                    · (intro w hSw; (try dsimp only at hSw); go_simp; (try with_reducible rfl))
                    (try simp only [Act.put, List.setIfInBounds_toArray, List.set_cons_zero, List.set_cons_succ])
                    refine take_at (i := 8) (v := ?_) rfl (by kernel_rfl) (by kernel_rfl) (by kernel_rfl) (fun _ _ _ h => h) (Or.inl ⟨by rfl, ?_⟩) hH ?_
                    rotate_left
                    · (intro w hSw; (try dsimp only at hSw); go_simp; (try with_reducible rfl))
                    (try simp only [Act.put, List.setIfInBounds_toArray, List.set_cons_zero, List.set_cons_succ])
                    refine take_at (i := 9) (v := ?_) rfl (by kernel_rfl) (by kernel_rfl) (by kernel_rfl) (fun _ _ _ h => h) (Or.inl ⟨by rfl, ?_⟩) hH ?_
                    rotate_left
                    · (intro w hSw; (try dsimp only at hSw); go_simp; (try with_reducible rfl))
                    (try simp only [Act.put, List.setIfInBounds_toArray, List.set_cons_zero, List.set_cons_succ])
                    refine wpAnyH_ready (rs := [10]) (by kernel_rfl) (by simp) ?_
                    refine cons_at rfl (fun K hK => ?_) AllReadyH.nil
                    go_simp
                    go_at_call 55
                    refine (HLast.out _ hM).mono ?_
                    rintro e w6 ⟨rfl, hb⟩
                    replace hM := hM.below hb
                    replace hX := (hb.block _ (by exact lt_of_heap hX)).trans hX
                    replace hI : SetAt _ P2 _ _ _ _ _ := (hb.block _ (by exact lt_of_heap hI)).trans hI
                    replace hB := hB.trans (hb.mono hs)
                    replace hs := Nat.le_trans hs hb.size
                    clear hb
                    (try go_wp2_with fail)
                    clear hH
                    refine hK.out _ _ (by exact ⟨cell_of_row _ w1.heap.size 0 _ _ _ hX, cell_of_row _ w1.heap.size 1 _ _ _ hX, cell_of_row _ w1.heap.size 2 _ _ _ hX, cell_of_row _ w1.heap.size 3 _ _ _ hX, cell_of_row _ w1.heap.size 4 _ _ _ hX, cell_of_row _ w1.heap.size 5 _ _ _ hX, cell_of_row _ w1.heap.size 6 _ _ _ hX, cell_of_row _ w1.heap.size 7 _ _ _ hX, cell_of_row _ w1.heap.size 8 _ _ _ hX⟩) (fun hH => ?_)
                    clear hK K
                    (try simp only [Act.put, List.setIfInBounds_toArray, List.set_cons_zero, List.set_cons_succ])
                    refine take_at (i := 11) (v := ?_) rfl (by kernel_rfl) (by kernel_rfl) (by kernel_rfl) (fun _ _ _ h => h) (Or.inl ⟨by rfl, ?_⟩) hH ?_
                    rotate_left
                    · (intro w hSw; (try dsimp only at hSw); go_simp; (try with_reducible rfl))
                    (try simp only [Act.put, List.setIfInBounds_toArray, List.set_cons_zero, List.set_cons_succ])
                    refine wpAnyH_ready (rs := [12]) (by kernel_rfl) (by simp) ?_
                    refine cons_at rfl (fun K hK => ?_) AllReadyH.nil
                    go_simp
                    go_at_call 72
                    refine (HOf.out _).mono ?_
                    rintro e w7 ⟨rfl, hb⟩
                    replace hM := hM.below hb
                    replace hX := (hb.block _ (by exact lt_of_heap hX)).trans hX
                    replace hI : SetAt _ P2 _ _ _ _ _ := (hb.block _ (by exact lt_of_heap hI)).trans hI
                    replace hB := hB.trans (hb.mono hs)
                    replace hs := Nat.le_trans hs hb.size
                    clear hb
                    (try go_wp2_with fail)
                    clear hH
                    refine hK.out _ _ (by exact ⟨cell_of_row _ w1.heap.size 0 _ _ _ hX, cell_of_row _ w1.heap.size 1 _ _ _ hX, cell_of_row _ w1.heap.size 2 _ _ _ hX, cell_of_row _ w1.heap.size 3 _ _ _ hX, cell_of_row _ w1.heap.size 4 _ _ _ hX, cell_of_row _ w1.heap.size 5 _ _ _ hX, cell_of_row _ w1.heap.size 6 _ _ _ hX, cell_of_row _ w1.heap.size 7 _ _ _ hX, cell_of_row _ w1.heap.size 8 _ _ _ hX⟩) (fun hH => ?_)
                    clear hK K
                    (try simp only [Act.put, List.setIfInBounds_toArray, List.set_cons_zero, List.set_cons_succ])
                    refine take_at (i := 13) (v := ?_) rfl (by kernel_rfl) (by kernel_rfl) (by kernel_rfl) (fun _ _ _ h => h) (Or.inl ⟨by rfl, ?_⟩) hH ?_
                    rotate_left
                    · (intro w hSw; (try dsimp only at hSw); go_simp; (try with_reducible rfl))
                    (try simp only [Act.put, List.setIfInBounds_toArray, List.set_cons_zero, List.set_cons_succ])
                    refine take_at (i := 14) (v := ?_) rfl (by kernel_rfl) (by kernel_rfl) (by kernel_rfl) (fun _ _ _ h => h) (Or.inl ⟨by rfl, ?_⟩) hH ?_
                    rotate_left
                    · (intro w hSw; (try dsimp only at hSw); go_simp; (try with_reducible rfl))
                    (try simp only [Act.put, List.setIfInBounds_toArray, List.set_cons_zero, List.set_cons_succ])
                    refine take_at (i := 15) (v := ?_) rfl (by kernel_rfl) (by kernel_rfl) (by kernel_rfl) (fun _ _ _ h => h) (Or.inl ⟨by rfl, ?_⟩) hH ?_
                    rotate_left
                    · (intro w hSw; (try dsimp only at hSw); go_simp; (try with_reducible rfl))
                    (try simp only [Act.put, List.setIfInBounds_toArray, List.set_cons_zero, List.set_cons_succ])
                    refine take_at (i := 16) (v := ?_) rfl (by kernel_rfl) (by kernel_rfl) (by kernel_rfl) (fun _ _ _ h => h) (Or.inl ⟨by rfl, ?_⟩) hH ?_
                    rotate_left
                    · (intro w hSw; (try dsimp only at hSw); go_simp; (try with_reducible rfl))
                    (try simp only [Act.put, List.setIfInBounds_toArray, List.set_cons_zero, List.set_cons_succ])
                    refine take_at (i := 17) (v := ?_) rfl (by kernel_rfl) (by kernel_rfl) (by kernel_rfl) (fun _ _ _ h => h) (Or.inl ⟨by rfl, ?_⟩) hH ?_
                    rotate_left
                    · (intro w hSw; (try dsimp only at hSw); go_simp; (try with_reducible rfl))
                    (try simp only [Act.put, List.setIfInBounds_toArray, List.set_cons_zero, List.set_cons_succ])
                    refine take_at (i := 18) (v := ?_) rfl (by kernel_rfl) (by kernel_rfl) (by kernel_rfl) (fun _ _ _ h => h) (Or.inl ⟨by rfl, ?_⟩) hH ?_
                    rotate_left
                    · (intro w hSw; (try dsimp only at hSw); go_simp; (try with_reducible rfl))
                    (try simp only [Act.put, List.setIfInBounds_toArray, List.set_cons_zero, List.set_cons_succ])
                    refine wpAnyH_done (by kernel_rfl) ?_ _
                    refine NoPanic.normal ?_
                    clear hH
                    rcases hd with ⟨rfl, rfl, hQ'⟩ | ⟨rfl, rfl⟩
                    · go_wp2
                      go_roundw
                      case rel => exact ⟨k3 + 1, m6, pc2, wv2, since2, at2, _, by go_num, rfl, hQ', hM, hI, hX, hB, hs⟩
                      case measure => simp [intOf]; omega
                    · go_wp2_with fail
                      refine (SetFreed P2 pc2 wv2 since2 at2 true _ hI).mono ?_
                      rintro e w8 ⟨rfl, hw8⟩
                      obtain rfl := hw8.symm
                      clear hw8
                      go_wp2_with fail
                      refine (AdvWent_nil _).mono ?_
                      rintro e w8 ⟨rfl, hw8⟩
                      obtain rfl := hw8.symm
                      clear hw8
                      go_wp2_with fail
                      refine (SetFreed_nil _).mono ?_
                      rintro e w8 ⟨rfl, hw8⟩
                      obtain rfl := hw8.symm
                      clear hw8
                      go_wp2
                      go_ret
                      exact ⟨rfl, hB⟩
                  · skip
                    refine wp_region_noPanic ?_
                    refine wp_region_held_drew (S := (fun w' => w'.cell? ⟨w1.heap.size, 0, none⟩ = some (.int .i64 4) ∧ w'.cell? ⟨w1.heap.size, 1, none⟩ = some (.int .i64 1) ∧ w'.cell? ⟨w1.heap.size, 2, none⟩ = some (.int .i64 2) ∧ w'.cell? ⟨w1.heap.size, 3, none⟩ = some (.int .i64 30) ∧ w'.cell? ⟨w1.heap.size, 4, none⟩ = some (.int .i64 100) ∧ w'.cell? ⟨w1.heap.size, 5, none⟩ = some (.int .i64 600) ∧ w'.cell? ⟨w1.heap.size, 6, none⟩ = some (.int .i64 3) ∧ w'.cell? ⟨w1.heap.size, 7, none⟩ = some (.pointer (some ⟨g, 0, none⟩)) ∧ w'.cell? ⟨w1.heap.size, 8, none⟩ = some (.int .i64 0))) (by kernel_rfl) (by exact ⟨cell_of_row _ w1.heap.size 0 _ _ _ hX, cell_of_row _ w1.heap.size 1 _ _ _ hX, cell_of_row _ w1.heap.size 2 _ _ _ hX, cell_of_row _ w1.heap.size 3 _ _ _ hX, cell_of_row _ w1.heap.size 4 _ _ _ hX, cell_of_row _ w1.heap.size 5 _ _ _ hX, cell_of_row _ w1.heap.size 6 _ _ _ hX, cell_of_row _ w1.heap.size 7 _ _ _ hX, cell_of_row _ w1.heap.size 8 _ _ _ hX⟩) (fun hH => ?_)
                    refine take_at (i := 0) (v := ?_) rfl (by kernel_rfl) (by kernel_rfl) (by kernel_rfl) (fun _ _ _ h => h) (Or.inl ⟨by rfl, ?_⟩) hH ?_
                    rotate_left
                    · (intro w hSw; (try dsimp only at hSw); go_simp; (try with_reducible rfl))
                    (try simp only [Act.put, List.setIfInBounds_toArray, List.set_cons_zero, List.set_cons_succ])
                    refine take_at (i := 2) (v := ?_) rfl (by kernel_rfl) (by kernel_rfl) (by kernel_rfl) (fun _ _ _ h => h) (Or.inl ⟨by rfl, ?_⟩) hH ?_
                    rotate_left
                    · (intro w hSw; (try dsimp only at hSw); go_simp; (try with_reducible rfl))
                    (try simp only [Act.put, List.setIfInBounds_toArray, List.set_cons_zero, List.set_cons_succ])
                    refine take_at (i := 3) (v := ?_) rfl (by kernel_rfl) (by kernel_rfl) (by kernel_rfl) (fun _ _ _ h => h) (Or.inl ⟨by rfl, ?_⟩) hH ?_
                    rotate_left
                    · (intro w hSw; (try dsimp only at hSw); go_simp; (try with_reducible rfl))
                    (try simp only [Act.put, List.setIfInBounds_toArray, List.set_cons_zero, List.set_cons_succ])
                    refine wpAnyH_ready (rs := [1]) (by kernel_rfl) (by simp) ?_
                    refine cons_at rfl (fun K hK => ?_) AllReadyH.nil
                    go_simp
                    go_at_call 66
                    refine (HNow.out _ hM).mono ?_
                    rintro e w5 ⟨rfl, hb⟩
                    replace hM := hM.below hb
                    replace hX := (hb.block _ (by exact lt_of_heap hX)).trans hX
                    replace hI : SetAt _ P2 _ _ _ _ _ := (hb.block _ (by exact lt_of_heap hI)).trans hI
                    replace hB := hB.trans (hb.mono hs)
                    replace hs := Nat.le_trans hs hb.size
                    clear hb
                    (try go_wp2_with fail)
                    clear hH
                    refine hK.out _ _ (by exact ⟨cell_of_row _ w1.heap.size 0 _ _ _ hX, cell_of_row _ w1.heap.size 1 _ _ _ hX, cell_of_row _ w1.heap.size 2 _ _ _ hX, cell_of_row _ w1.heap.size 3 _ _ _ hX, cell_of_row _ w1.heap.size 4 _ _ _ hX, cell_of_row _ w1.heap.size 5 _ _ _ hX, cell_of_row _ w1.heap.size 6 _ _ _ hX, cell_of_row _ w1.heap.size 7 _ _ _ hX, cell_of_row _ w1.heap.size 8 _ _ _ hX⟩) (fun hH => ?_)
                    clear hK K
                    (try simp only [Act.put, List.setIfInBounds_toArray, List.set_cons_zero, List.set_cons_succ])
                    refine take_at (i := 4) (v := ?_) rfl (by kernel_rfl) (by kernel_rfl) (by kernel_rfl) (fun _ _ _ h => h) (Or.inl ⟨by rfl, ?_⟩) hH ?_
                    rotate_left
                    · (intro w hSw; (try dsimp only at hSw); go_simp; (try with_reducible rfl))
                    (try simp only [Act.put, List.setIfInBounds_toArray, List.set_cons_zero, List.set_cons_succ])
                    refine take_at (i := 5) (v := ?_) rfl (by kernel_rfl) (by kernel_rfl) (by kernel_rfl) (fun _ _ _ h => h) (Or.inl ⟨by rfl, ?_⟩) hH ?_
                    rotate_left
                    · (intro w hSw; (try dsimp only at hSw); go_simp; (try with_reducible rfl))
                    (try simp only [Act.put, List.setIfInBounds_toArray, List.set_cons_zero, List.set_cons_succ])
                    refine take_at (i := 6) (v := ?_) rfl (by kernel_rfl) (by kernel_rfl) (by kernel_rfl) (fun _ _ _ h => h) (Or.inl ⟨by rfl, ?_⟩) hH ?_
                    rotate_left
                    · (intro w hSw; (try dsimp only at hSw); go_simp; (try with_reducible rfl))
                    (try simp only [Act.put, List.setIfInBounds_toArray, List.set_cons_zero, List.set_cons_succ])
                    refine take_at (i := 7) (v := ?_) rfl (by kernel_rfl) (by kernel_rfl) (by kernel_rfl) (fun _ _ _ h => h) (Or.inl ⟨by rfl, ?_⟩) hH ?_
                    rotate_left
                    · (intro w hSw; (try dsimp only at hSw); go_simp; (try with_reducible rfl))
                    (try simp only [Act.put, List.setIfInBounds_toArray, List.set_cons_zero, List.set_cons_succ])
                    refine take_at (i := 8) (v := ?_) rfl (by kernel_rfl) (by kernel_rfl) (by kernel_rfl) (fun _ _ _ h => h) (Or.inl ⟨by rfl, ?_⟩) hH ?_
                    rotate_left
                    · (intro w hSw; (try dsimp only at hSw); go_simp; (try with_reducible rfl))
                    (try simp only [Act.put, List.setIfInBounds_toArray, List.set_cons_zero, List.set_cons_succ])
                    refine take_at (i := 9) (v := ?_) rfl (by kernel_rfl) (by kernel_rfl) (by kernel_rfl) (fun _ _ _ h => h) (Or.inl ⟨by rfl, ?_⟩) hH ?_
                    rotate_left
                    · (intro w hSw; (try dsimp only at hSw); go_simp; (try with_reducible rfl))
                    (try simp only [Act.put, List.setIfInBounds_toArray, List.set_cons_zero, List.set_cons_succ])
                    refine wpAnyH_ready (rs := [10]) (by kernel_rfl) (by simp) ?_
                    refine cons_at rfl (fun K hK => ?_) AllReadyH.nil
                    go_simp
                    go_at_call 55
                    refine (HLast.out _ hM).mono ?_
                    rintro e w6 ⟨rfl, hb⟩
                    replace hM := hM.below hb
                    replace hX := (hb.block _ (by exact lt_of_heap hX)).trans hX
                    replace hI : SetAt _ P2 _ _ _ _ _ := (hb.block _ (by exact lt_of_heap hI)).trans hI
                    replace hB := hB.trans (hb.mono hs)
                    replace hs := Nat.le_trans hs hb.size
                    clear hb
                    (try go_wp2_with fail)
                    clear hH
                    refine hK.out _ _ (by exact ⟨cell_of_row _ w1.heap.size 0 _ _ _ hX, cell_of_row _ w1.heap.size 1 _ _ _ hX, cell_of_row _ w1.heap.size 2 _ _ _ hX, cell_of_row _ w1.heap.size 3 _ _ _ hX, cell_of_row _ w1.heap.size 4 _ _ _ hX, cell_of_row _ w1.heap.size 5 _ _ _ hX, cell_of_row _ w1.heap.size 6 _ _ _ hX, cell_of_row _ w1.heap.size 7 _ _ _ hX, cell_of_row _ w1.heap.size 8 _ _ _ hX⟩) (fun hH => ?_)
                    clear hK K
                    (try simp only [Act.put, List.setIfInBounds_toArray, List.set_cons_zero, List.set_cons_succ])
                    refine take_at (i := 11) (v := ?_) rfl (by kernel_rfl) (by kernel_rfl) (by kernel_rfl) (fun _ _ _ h => h) (Or.inl ⟨by rfl, ?_⟩) hH ?_
                    rotate_left
                    · (intro w hSw; (try dsimp only at hSw); go_simp; (try with_reducible rfl))
                    (try simp only [Act.put, List.setIfInBounds_toArray, List.set_cons_zero, List.set_cons_succ])
                    refine wpAnyH_ready (rs := [12]) (by kernel_rfl) (by simp) ?_
                    refine cons_at rfl (fun K hK => ?_) AllReadyH.nil
                    go_simp
                    go_at_call 72
                    refine (HOf.out _).mono ?_
                    rintro e w7 ⟨rfl, hb⟩
                    replace hM := hM.below hb
                    replace hX := (hb.block _ (by exact lt_of_heap hX)).trans hX
                    replace hI : SetAt _ P2 _ _ _ _ _ := (hb.block _ (by exact lt_of_heap hI)).trans hI
                    replace hB := hB.trans (hb.mono hs)
                    replace hs := Nat.le_trans hs hb.size
                    clear hb
                    (try go_wp2_with fail)
                    clear hH
                    refine hK.out _ _ (by exact ⟨cell_of_row _ w1.heap.size 0 _ _ _ hX, cell_of_row _ w1.heap.size 1 _ _ _ hX, cell_of_row _ w1.heap.size 2 _ _ _ hX, cell_of_row _ w1.heap.size 3 _ _ _ hX, cell_of_row _ w1.heap.size 4 _ _ _ hX, cell_of_row _ w1.heap.size 5 _ _ _ hX, cell_of_row _ w1.heap.size 6 _ _ _ hX, cell_of_row _ w1.heap.size 7 _ _ _ hX, cell_of_row _ w1.heap.size 8 _ _ _ hX⟩) (fun hH => ?_)
                    clear hK K
                    (try simp only [Act.put, List.setIfInBounds_toArray, List.set_cons_zero, List.set_cons_succ])
                    refine take_at (i := 13) (v := ?_) rfl (by kernel_rfl) (by kernel_rfl) (by kernel_rfl) (fun _ _ _ h => h) (Or.inl ⟨by rfl, ?_⟩) hH ?_
                    rotate_left
                    · (intro w hSw; (try dsimp only at hSw); go_simp; (try with_reducible rfl))
                    (try simp only [Act.put, List.setIfInBounds_toArray, List.set_cons_zero, List.set_cons_succ])
                    refine take_at (i := 14) (v := ?_) rfl (by kernel_rfl) (by kernel_rfl) (by kernel_rfl) (fun _ _ _ h => h) (Or.inl ⟨by rfl, ?_⟩) hH ?_
                    rotate_left
                    · (intro w hSw; (try dsimp only at hSw); go_simp; (try with_reducible rfl))
                    (try simp only [Act.put, List.setIfInBounds_toArray, List.set_cons_zero, List.set_cons_succ])
                    refine take_at (i := 15) (v := undef) rfl (by kernel_rfl) (by kernel_rfl) (by kernel_rfl) (fun _ _ _ h => h) (Or.inr ⟨by rfl, rfl⟩) hH ?_
                    (try simp only [Act.put, List.setIfInBounds_toArray, List.set_cons_zero, List.set_cons_succ])
                    refine take_at (i := 16) (v := undef) rfl (by kernel_rfl) (by kernel_rfl) (by kernel_rfl) (fun _ _ _ h => h) (Or.inr ⟨by rfl, rfl⟩) hH ?_
                    (try simp only [Act.put, List.setIfInBounds_toArray, List.set_cons_zero, List.set_cons_succ])
                    refine take_at (i := 17) (v := ?_) rfl (by kernel_rfl) (by kernel_rfl) (by kernel_rfl) (fun _ _ _ h => h) (Or.inl ⟨by rfl, ?_⟩) hH ?_
                    rotate_left
                    · (intro w hSw; (try dsimp only at hSw); go_simp; (try with_reducible rfl))
                    (try simp only [Act.put, List.setIfInBounds_toArray, List.set_cons_zero, List.set_cons_succ])
                    refine take_at (i := 18) (v := ?_) rfl (by kernel_rfl) (by kernel_rfl) (by kernel_rfl) (fun _ _ _ h => h) (Or.inl ⟨by rfl, ?_⟩) hH ?_
                    rotate_left
                    · (intro w hSw; (try dsimp only at hSw); go_simp; (try with_reducible rfl))
                    (try simp only [Act.put, List.setIfInBounds_toArray, List.set_cons_zero, List.set_cons_succ])
                    refine wpAnyH_done (by kernel_rfl) ?_ _
                    refine NoPanic.normal ?_
                    clear hH
                    rcases hd with ⟨rfl, rfl, hQ'⟩ | ⟨rfl, rfl⟩
                    · go_wp2
                      go_roundw
                      case rel => exact ⟨k3 + 1, m6, pc2, wv2, since2, at2, _, by go_num, rfl, hQ', hM, hI, hX, hB, hs⟩
                      case measure => simp [intOf]; omega
                    · go_wp2_with fail
                      refine (SetFreed P2 pc2 wv2 since2 at2 true _ hI).mono ?_
                      rintro e w8 ⟨rfl, hw8⟩
                      obtain rfl := hw8.symm
                      clear hw8
                      go_wp2_with fail
                      refine (AdvWent_nil _).mono ?_
                      rintro e w8 ⟨rfl, hw8⟩
                      obtain rfl := hw8.symm
                      clear hw8
                      go_wp2_with fail
                      refine (SetFreed_nil _).mono ?_
                      rintro e w8 ⟨rfl, hw8⟩
                      obtain rfl := hw8.symm
                      clear hw8
                      go_wp2
                      go_ret
                      exact ⟨rfl, hB⟩
          · have HLast : Hid (∀ W, MemAt W g gw gh m2 → Calls Try.prog 55 #[.pointer (some ⟨g, 0, none⟩)] W fun e W' => e = .returned (.agg #[.int .i64 0, .int .i64 m2.lw, .bool true]) ∧ Below W.heap.size W W') := by
              intro W hW
              have := Last_any g gw gh m2 W hW
              rw [h, h0] at this; exact this
            clear h h0
            go_wp2_with fail
            refine (HLast.out _ hM).mono ?_
            rintro e V4 ⟨rfl, hb⟩
            replace hM := hM.below hb
            replace hX := (hb.block _ (by exact lt_of_heap hX)).trans hX
            replace hI : AdvAt _ P _ _ _ _ := (hb.block _ (by exact lt_of_heap hI)).trans hI
            replace hB := hB.trans (hb.mono hs)
            replace hs := Nat.le_trans hs hb.size
            clear hb c0 c1 c2 c3 c4 c5 c6 c7 c8
            obtain ⟨c0, c1, c2, c3, c4, c5, c6, c7, c8⟩ := env_cells hX
            go_wp2_with fail
            refine (HLast.out _ hM).mono ?_
            rintro e V5 ⟨rfl, hb⟩
            replace hM := hM.below hb
            replace hX := (hb.block _ (by exact lt_of_heap hX)).trans hX
            replace hI : AdvAt _ P _ _ _ _ := (hb.block _ (by exact lt_of_heap hI)).trans hI
            replace hB := hB.trans (hb.mono hs)
            replace hs := Nat.le_trans hs hb.size
            clear hb c0 c1 c2 c3 c4 c5 c6 c7 c8
            rcases HD.out with ⟨rfl, rfl, hA'⟩ | ⟨rfl, hE⟩
            · have HA' := Lib.hid hA'
              clear hA' HD
              go_wp2
              go_roundw
              case rel => exact ⟨k2 + 1, m2, pc', now', at', _, by go_num, rfl, HA', hM, hI, hX, hB, hs⟩
              case measure => simp [intOf]; omega
            · have HE := Lib.hid hE
              clear hE HD
              go_wp2
              as_aux_lemma =>
                have HF : Hid (m2.n = 78 ∧ m2.steps ≤ 20 ∧ m2.w 14 = 0) := ⟨HE.out.n.trans hG.out.n, by have := HE.out.hi; have := hG.out.st; omega, (HE.out.w 14 (by omega)).trans hG.out.w14⟩
                obtain ⟨u, hu, hu1, hu2⟩ : ∃ u : Int, 1 + v0 = u ∧ 1 ≤ u ∧ u ≤ 16 := ⟨_, rfl, by omega, by omega⟩
                have hwu : IntKind.i64.wrap u = u := by rw [IntWalk.i64_left]; exact IntWalk.wrap64_in _ ⟨by omega, by omega⟩
                have HPC : Hid (∀ W, Calls Try.prog 34 #[.agg #[.int .i64 3, .int .i64 0, .int .i64 u, .int .i64 0]] W fun e w' => e = .returned (.int .u64 (3 + 256 * u)) ∧ Below W.heap.size W w') := by
                  intro W
                  have h := PutChunk_any 3 0 u 0 W
                  rw [put3 u hu1 hu2] at h
                  exact h
                clear hI HE hst0 hwr HNow HLast hnx npP hbl hst
                replace hM := hM.drew
                replace hB := hB.drew
                replace hX := heapDrew hX
                replace hs := sizeDrew hs
                (first | (go_region_held3 (fun w' => w'.cell? ⟨w1.heap.size, 0, none⟩ = some (.int .i64 4) ∧ w'.cell? ⟨w1.heap.size, 1, none⟩ = some (.int .i64 1) ∧ w'.cell? ⟨w1.heap.size, 2, none⟩ = some (.int .i64 2) ∧ w'.cell? ⟨w1.heap.size, 3, none⟩ = some (.int .i64 30) ∧ w'.cell? ⟨w1.heap.size, 4, none⟩ = some (.int .i64 100) ∧ w'.cell? ⟨w1.heap.size, 5, none⟩ = some (.int .i64 600) ∧ w'.cell? ⟨w1.heap.size, 6, none⟩ = some (.int .i64 3) ∧ w'.cell? ⟨w1.heap.size, 7, none⟩ = some (.pointer (some ⟨g, 0, none⟩)) ∧ w'.cell? ⟨w1.heap.size, 8, none⟩ = some (.int .i64 0))
                  (exact ⟨cell_of_row _ w1.heap.size 0 _ _ _ hX, cell_of_row _ w1.heap.size 1 _ _ _ hX, cell_of_row _ w1.heap.size 2 _ _ _ hX, cell_of_row _ w1.heap.size 3 _ _ _ hX, cell_of_row _ w1.heap.size 4 _ _ _ hX, cell_of_row _ w1.heap.size 5 _ _ _ hX, cell_of_row _ w1.heap.size 6 _ _ _ hX, cell_of_row _ w1.heap.size 7 _ _ _ hX, cell_of_row _ w1.heap.size 8 _ _ _ hX⟩)
                  (first
                    | (go_at_call 69; refine (LC0 _).mono ?_; rintro e w5 ⟨rfl, hb⟩; replace hM := hM.below hb; replace hX := (hb.block _ (by exact lt_of_heap hX)).trans hX; replace hB := hB.trans (hb.mono hs); replace hs := Nat.le_trans hs hb.size; clear hb)
                    | (go_at_call 34; refine (HPC.out _).mono ?_; rintro e w5 ⟨rfl, hb⟩; replace hM := hM.below hb; replace hX := (hb.block _ (by exact lt_of_heap hX)).trans hX; replace hB := hB.trans (hb.mono hs); replace hs := Nat.le_trans hs hb.size; clear hb)
                    | (go_at_call 51; refine (Store_yes g gw gh m2 12 (3 + 256 * u) _ hM (by rw [HF.out.1]; omega) (by have := HF.out.2.1; omega) (by omega)).mono ?_; rintro e w5 ⟨rfl, hM5, hK⟩; replace hX := hK.heap hX np.1 np.2.1 np.2.2; replace hB := hB.trans (hK.below b0 b1 b2 hs); replace hs := Nat.le_trans hs hK.size; replace hM := hM5; clear hM5 hK))) | fail)
                have HF3 : Hid (((m2.step 12).set 12 (3 + 256 * u)).n = 78 ∧ ((m2.step 12).set 12 (3 + 256 * u)).steps ≤ 21 ∧ ((m2.step 12).set 12 (3 + 256 * u)).w 14 = 0 ∧ ((m2.step 12).set 12 (3 + 256 * u)).w 12 = 3 + 256 * u) := ⟨HF.out.1, by have := HF.out.2.1; show m2.steps + 1 ≤ 21; omega, (upd_other m2.w 12 14 (3 + 256 * u) (by omega)).trans HF.out.2.2, upd_same m2.w 12 (3 + 256 * u)⟩
                clear HF hu hwu HPC
                generalize (m2.step 12).set 12 (3 + 256 * u) = m3 at hM HF3
                have c7 := cell_of_row _ w1.heap.size 7 _ _ _ hX
                go_wp2
                clear c7
                replace hM := hM.drew
                replace hB := hB.drew
                replace hX := heapDrew hX
                replace hs := sizeDrew hs
                (first | (go_region_held3 (fun w' => w'.cell? ⟨w1.heap.size, 0, none⟩ = some (.int .i64 4) ∧ w'.cell? ⟨w1.heap.size, 1, none⟩ = some (.int .i64 1) ∧ w'.cell? ⟨w1.heap.size, 2, none⟩ = some (.int .i64 2) ∧ w'.cell? ⟨w1.heap.size, 3, none⟩ = some (.int .i64 30) ∧ w'.cell? ⟨w1.heap.size, 4, none⟩ = some (.int .i64 100) ∧ w'.cell? ⟨w1.heap.size, 5, none⟩ = some (.int .i64 600) ∧ w'.cell? ⟨w1.heap.size, 6, none⟩ = some (.int .i64 3) ∧ w'.cell? ⟨w1.heap.size, 7, none⟩ = some (.pointer (some ⟨g, 0, none⟩)) ∧ w'.cell? ⟨w1.heap.size, 8, none⟩ = some (.int .i64 0))
                  (exact ⟨cell_of_row _ w1.heap.size 0 _ _ _ hX, cell_of_row _ w1.heap.size 1 _ _ _ hX, cell_of_row _ w1.heap.size 2 _ _ _ hX, cell_of_row _ w1.heap.size 3 _ _ _ hX, cell_of_row _ w1.heap.size 4 _ _ _ hX, cell_of_row _ w1.heap.size 5 _ _ _ hX, cell_of_row _ w1.heap.size 6 _ _ _ hX, cell_of_row _ w1.heap.size 7 _ _ _ hX, cell_of_row _ w1.heap.size 8 _ _ _ hX⟩)
                  (first
                    | (go_at_call 62; refine (LEpoch_any _).mono ?_; rintro e w5 ⟨rfl, hw5⟩; obtain rfl := hw5.symm; clear hw5)
                    | (go_at_call 51; refine (Store_yes g gw gh m3 0 9 _ hM (by rw [HF3.out.1]; omega) (by have := HF3.out.2.1; omega) (by omega)).mono ?_; rintro e wS ⟨rfl, hM5, hK⟩; replace hX := hK.heap hX np.1 np.2.1 np.2.2; replace hB := hB.trans (hK.below b0 b1 b2 hs); replace hs := Nat.le_trans hs hK.size; replace hM := hM5; clear hM5 hK))) | fail)
                have HQ0 : Hid (QS u 0 ((m3.step 0).set 0 9) 0 0 0 0) := ⟨HF3.out.1, by have := HF3.out.2.1; show m3.steps + 1 ≤ _; omega, upd_same m3.w 0 9, (upd_other m3.w 0 12 9 (by omega)).trans HF3.out.2.2.2, (upd_other m3.w 0 14 9 (by omega)).trans HF3.out.2.2.1, .inl ⟨rfl, rfl, rfl, rfl, rfl⟩⟩
                clear HF3
                generalize (m3.step 0).set 0 9 = m4 at hM HQ0
                go_wp2_with fail
                refine (NewSettle_any _).mono ?_
                rintro e w5 ⟨rfl, rfl⟩
                have hI : SetAt (wS.alloc (.cells #[.int .i64 0, .int .i64 0, .int .u64 0, .int .u64 0, .int .i64 0, .bool false] 122)) wS.heap.size 0 0 0 0 false := heap_alloc_new wS _
                have hb := below_new wS (.cells #[.int .i64 0, .int .i64 0, .int .u64 0, .int .u64 0, .int .i64 0, .bool false] 122)
                have npP : wS.heap.size ≠ g ∧ wS.heap.size ≠ gw ∧ wS.heap.size ≠ gh := by have := hM.lt; have := hM.ltw; have := hM.lth; omega
                have hnx : w1.heap.size ∉ [wS.heap.size, g, gw, gh] := by have := lt_of_heap hX; simp; omega
                have hbl : ∀ k ∈ [wS.heap.size, g, gw, gh], w.heap.size ≤ k := by simp; omega
                replace hM := hM.below hb
                replace hX := (hb.block _ (by exact lt_of_heap hX)).trans hX
                replace hB := hB.trans (hb.mono hs)
                replace hs := Nat.le_trans hs hb.size
                clear hb
                generalize wS.alloc (.cells #[.int .i64 0, .int .i64 0, .int .u64 0, .int .u64 0, .int .i64 0, .bool false] 122) = U4 at hI hM hX hB hs ⊢
                generalize wS.heap.size = P2 at hI npP hnx hbl ⊢
                go_wp2_with fail
                go_loopw [13] (fun i wr => ∃ (k3 : Nat) (m5 : Ms) (pc wv since at_ : Int) (U : World), i = .int .i64 k3 ∧ U = wr ∧ Hid (QS u k3 m5 pc wv since at_) ∧ MemAt U g gw gh m5 ∧ SetAt U P2 pc wv since at_ false ∧ U.heap[w1.heap.size]? = some (.cells #[.int .i64 4, .int .i64 1, .int .i64 2, .int .i64 30, .int .i64 100, .int .i64 600, .int .i64 3, .pointer (some ⟨g, 0, none⟩), .int .i64 0] 87 (0, 0)) ∧ Below w.heap.size w U ∧ w.heap.size ≤ U.heap.size) (fun i _ => 60 - (intOf i).toNat)
                case atStart => exact ⟨0, _, 0, 0, 0, 0, _, rfl, rfl, HQ0, hM, hI, hX, hB, hs⟩
                case round =>
                  clear HQ0 hM hI hX hB hs
                  obtain ⟨k3, m5, pcs, wvs, sis, ats, V9, rfl, rfl, hQ, hM, hI, hX, hB, hs⟩ := hrel
                  have hk3 : k3 ≤ 20 := hQ.out.le ⟨hu1, hu2⟩
                  have hk3i : (k3 : Int) < 60 := by omega
                  have hst5 := hM.st0
                  have hst6 : m5.steps ≤ 100 := by have := hQ.out.st; omega
                  have hwr5 : IntKind.i64.wrap (m5.steps + 1) = m5.steps + 1 := by rw [IntWalk.i64_left]; exact IntWalk.wrap64_in _ ⟨by omega, by omega⟩
                  have HN12 : Hid (12 < m5.n) := by have := hQ.out.n; show 12 < m5.n; omega
                  go_wp2
                  replace hM := hM.drew
                  replace hB := hB.drew
                  replace hX : V9.drew.heap[w1.heap.size]? = _ := hX
                  replace hI : SetAt V9.drew P2 _ _ _ _ _ := hI
                  replace hs : w.heap.size ≤ V9.drew.heap.size := hs
                  (first | (go_region_held3 (fun w' => w'.cell? ⟨w1.heap.size, 0, none⟩ = some (.int .i64 4) ∧ w'.cell? ⟨w1.heap.size, 1, none⟩ = some (.int .i64 1) ∧ w'.cell? ⟨w1.heap.size, 2, none⟩ = some (.int .i64 2) ∧ w'.cell? ⟨w1.heap.size, 3, none⟩ = some (.int .i64 30) ∧ w'.cell? ⟨w1.heap.size, 4, none⟩ = some (.int .i64 100) ∧ w'.cell? ⟨w1.heap.size, 5, none⟩ = some (.int .i64 600) ∧ w'.cell? ⟨w1.heap.size, 6, none⟩ = some (.int .i64 3) ∧ w'.cell? ⟨w1.heap.size, 7, none⟩ = some (.pointer (some ⟨g, 0, none⟩)) ∧ w'.cell? ⟨w1.heap.size, 8, none⟩ = some (.int .i64 0))
                    (exact ⟨cell_of_row _ w1.heap.size 0 _ _ _ hX, cell_of_row _ w1.heap.size 1 _ _ _ hX, cell_of_row _ w1.heap.size 2 _ _ _ hX, cell_of_row _ w1.heap.size 3 _ _ _ hX, cell_of_row _ w1.heap.size 4 _ _ _ hX, cell_of_row _ w1.heap.size 5 _ _ _ hX, cell_of_row _ w1.heap.size 6 _ _ _ hX, cell_of_row _ w1.heap.size 7 _ _ _ hX, cell_of_row _ w1.heap.size 8 _ _ _ hX⟩)
                    (first
                      | (go_at_call 66; refine (ENow 4 1 2 30 100 600 3 0 g gw gh m5 _ hM).mono ?_; rintro e w5 ⟨rfl, hb⟩; replace hM := hM.below hb; replace hX := (hb.block _ (by exact lt_of_heap hX)).trans hX; replace hI : SetAt _ P2 _ _ _ _ _ := (hb.block _ (by exact lt_of_heap hI)).trans hI; replace hB := hB.trans (hb.mono hs); replace hs := Nat.le_trans hs hb.size; clear hb)
                      | (go_at_call 69; refine (LC0 _).mono ?_; rintro e w5 ⟨rfl, hb⟩; replace hM := hM.below hb; replace hX := (hb.block _ (by exact lt_of_heap hX)).trans hX; replace hI : SetAt _ P2 _ _ _ _ _ := (hb.block _ (by exact lt_of_heap hI)).trans hI; replace hB := hB.trans (hb.mono hs); replace hs := Nat.le_trans hs hb.size; clear hb)
                      | (go_at_call 49; refine (Peek_val g gw gh m5 12 (3 + 256 * u) _ hM HN12.out hQ.out.w12).mono ?_; rintro e w5 ⟨rfl, hw5⟩; obtain rfl := hw5.symm; clear hw5)
                      | (go_at_call 36; refine (Chunk_at (3 + 256 * u) 3 0 u 0 _ (zdec u ⟨hu1, hu2⟩)).mono ?_; rintro e w5 ⟨rfl, hb⟩; replace hM := hM.below hb; replace hX := (hb.block _ (by exact lt_of_heap hX)).trans hX; replace hI : SetAt _ P2 _ _ _ _ _ := (hb.block _ (by exact lt_of_heap hI)).trans hI; replace hB := hB.trans (hb.mono hs); replace hs := Nat.le_trans hs hb.size; clear hb))) | fail)
                  obtain ⟨d, m6, pc2, wv2, since2, at2, fr2, hst7, ⟨la, hla, hla2⟩, hd, HC⟩ := SetStep_all u ⟨hu1, hu2⟩ g gw gh P2 k3 m5 pcs wvs sis ats _ hM hI npP hQ.out
                  obtain ⟨c0, c1, c2, c3, c4, c5, c6, c7, c8⟩ := env_cells hX
                  go_wp2_with fail
                  refine HC.out.mono ?_
                  rintro e w9 ⟨rfl, hM9, hI9, hK9⟩
                  have hX9 := hK9.heap hX hnx
                  have hB9 := hB.trans (hK9.below hbl hs)
                  have hs9 := Nat.le_trans hs hK9.size
                  clear hK9 HC hM hI hX hB hs c0 c1 c2 c3 c4 c5 c6 c7 c8
                  have hM := hM9
                  have hI := hI9
                  have hX := hX9
                  have hB := hB9
                  have hs := hs9
                  clear hM9 hI9 hX9 hB9 hs9
                  have HNow : Hid (∀ W, MemAt W g gw gh m6 → Calls Try.prog 66 #[.agg #[.int .i64 4, .int .i64 1, .int .i64 2, .int .i64 30, .int .i64 100, .int .i64 600, .int .i64 3, .pointer (some ⟨g, 0, none⟩), .int .i64 0]] W fun e W' => e = .returned (.int .i64 (m5.steps + 1)) ∧ Below W.heap.size W W') := by
                    intro W h
                    have := ENow 4 1 2 30 100 600 3 0 g gw gh m6 W h
                    rw [hst7] at this; exact this
                  have HLast : Hid (∀ W, MemAt W g gw gh m6 → Calls Try.prog 55 #[.pointer (some ⟨g, 0, none⟩)] W fun e W' => e = .returned (.agg #[.int .i64 (la : Nat), .int .i64 m6.lw, .bool m6.lc]) ∧ Below W.heap.size W W') := by
                    intro W h
                    have := Last_any g gw gh m6 W h
                    rw [hla] at this; exact this
                  obtain ⟨r, hr, HOf⟩ := LOf_any la hla2
                  clear hst7 hla hla2
                  go_wp2
                  replace hM := hM.drew
                  replace hB := hB.drew
                  replace hX : w9.drew.heap[w1.heap.size]? = _ := hX
                  replace hI : SetAt w9.drew P2 _ _ _ _ _ := hI
                  replace hs : w.heap.size ≤ w9.drew.heap.size := hs
                  rcases hr with rfl | rfl
                  · skip
                    refine wp_region_noPanic ?_
                    refine wp_region_held_drew (S := (fun w' => w'.cell? ⟨w1.heap.size, 0, none⟩ = some (.int .i64 4) ∧ w'.cell? ⟨w1.heap.size, 1, none⟩ = some (.int .i64 1) ∧ w'.cell? ⟨w1.heap.size, 2, none⟩ = some (.int .i64 2) ∧ w'.cell? ⟨w1.heap.size, 3, none⟩ = some (.int .i64 30) ∧ w'.cell? ⟨w1.heap.size, 4, none⟩ = some (.int .i64 100) ∧ w'.cell? ⟨w1.heap.size, 5, none⟩ = some (.int .i64 600) ∧ w'.cell? ⟨w1.heap.size, 6, none⟩ = some (.int .i64 3) ∧ w'.cell? ⟨w1.heap.size, 7, none⟩ = some (.pointer (some ⟨g, 0, none⟩)) ∧ w'.cell? ⟨w1.heap.size, 8, none⟩ = some (.int .i64 0))) (by kernel_rfl) (by exact ⟨cell_of_row _ w1.heap.size 0 _ _ _ hX, cell_of_row _ w1.heap.size 1 _ _ _ hX, cell_of_row _ w1.heap.size 2 _ _ _ hX, cell_of_row _ w1.heap.size 3 _ _ _ hX, cell_of_row _ w1.heap.size 4 _ _ _ hX, cell_of_row _ w1.heap.size 5 _ _ _ hX, cell_of_row _ w1.heap.size 6 _ _ _ hX, cell_of_row _ w1.heap.size 7 _ _ _ hX, cell_of_row _ w1.heap.size 8 _ _ _ hX⟩) (fun hH => ?_)
                    refine take_at (i := 0) (v := ?_) rfl (by kernel_rfl) (by kernel_rfl) (by kernel_rfl) (fun _ _ _ h => h) (Or.inl ⟨by rfl, ?_⟩) hH ?_
                    rotate_left
                    · (intro w hSw; (try dsimp only at hSw); go_simp; (try with_reducible rfl))
                    (try simp only [Act.put, List.setIfInBounds_toArray, List.set_cons_zero, List.set_cons_succ])
                    refine take_at (i := 2) (v := ?_) rfl (by kernel_rfl) (by kernel_rfl) (by kernel_rfl) (fun _ _ _ h => h) (Or.inl ⟨by rfl, ?_⟩) hH ?_
                    rotate_left
                    · (intro w hSw; (try dsimp only at hSw); go_simp; (try with_reducible rfl))
                    (try simp only [Act.put, List.setIfInBounds_toArray, List.set_cons_zero, List.set_cons_succ])
                    refine take_at (i := 3) (v := ?_) rfl (by kernel_rfl) (by kernel_rfl) (by kernel_rfl) (fun _ _ _ h => h) (Or.inl ⟨by rfl, ?_⟩) hH ?_
                    rotate_left
                    · (intro w hSw; (try dsimp only at hSw); go_simp; (try with_reducible rfl))
                    (try simp only [Act.put, List.setIfInBounds_toArray, List.set_cons_zero, List.set_cons_succ])
                    refine wpAnyH_ready (rs := [1]) (by kernel_rfl) (by simp) ?_
                    refine cons_at rfl (fun K hK => ?_) AllReadyH.nil
                    go_simp
                    go_at_call 66
                    refine (HNow.out _ hM).mono ?_
                    rintro e w5 ⟨rfl, hb⟩
                    replace hM := hM.below hb
                    replace hX := (hb.block _ (by exact lt_of_heap hX)).trans hX
                    replace hI : SetAt _ P2 _ _ _ _ _ := (hb.block _ (by exact lt_of_heap hI)).trans hI
                    replace hB := hB.trans (hb.mono hs)
                    replace hs := Nat.le_trans hs hb.size
                    clear hb
                    (try go_wp2_with fail)
                    clear hH
                    refine hK.out _ _ (by exact ⟨cell_of_row _ w1.heap.size 0 _ _ _ hX, cell_of_row _ w1.heap.size 1 _ _ _ hX, cell_of_row _ w1.heap.size 2 _ _ _ hX, cell_of_row _ w1.heap.size 3 _ _ _ hX, cell_of_row _ w1.heap.size 4 _ _ _ hX, cell_of_row _ w1.heap.size 5 _ _ _ hX, cell_of_row _ w1.heap.size 6 _ _ _ hX, cell_of_row _ w1.heap.size 7 _ _ _ hX, cell_of_row _ w1.heap.size 8 _ _ _ hX⟩) (fun hH => ?_)
                    clear hK K
                    (try simp only [Act.put, List.setIfInBounds_toArray, List.set_cons_zero, List.set_cons_succ])
                    refine take_at (i := 4) (v := ?_) rfl (by kernel_rfl) (by kernel_rfl) (by kernel_rfl) (fun _ _ _ h => h) (Or.inl ⟨by rfl, ?_⟩) hH ?_
                    rotate_left
                    · (intro w hSw; (try dsimp only at hSw); go_simp; (try with_reducible rfl))
                    (try simp only [Act.put, List.setIfInBounds_toArray, List.set_cons_zero, List.set_cons_succ])
                    refine take_at (i := 5) (v := ?_) rfl (by kernel_rfl) (by kernel_rfl) (by kernel_rfl) (fun _ _ _ h => h) (Or.inl ⟨by rfl, ?_⟩) hH ?_
                    rotate_left
                    · (intro w hSw; (try dsimp only at hSw); go_simp; (try with_reducible rfl))
                    (try simp only [Act.put, List.setIfInBounds_toArray, List.set_cons_zero, List.set_cons_succ])
                    refine take_at (i := 6) (v := ?_) rfl (by kernel_rfl) (by kernel_rfl) (by kernel_rfl) (fun _ _ _ h => h) (Or.inl ⟨by rfl, ?_⟩) hH ?_
                    rotate_left
                    · (intro w hSw; (try dsimp only at hSw); go_simp; (try with_reducible rfl))
                    (try simp only [Act.put, List.setIfInBounds_toArray, List.set_cons_zero, List.set_cons_succ])
                    refine take_at (i := 7) (v := ?_) rfl (by kernel_rfl) (by kernel_rfl) (by kernel_rfl) (fun _ _ _ h => h) (Or.inl ⟨by rfl, ?_⟩) hH ?_
                    rotate_left
                    · (intro w hSw; (try dsimp only at hSw); go_simp; (try with_reducible rfl))
                    (try simp only [Act.put, List.setIfInBounds_toArray, List.set_cons_zero, List.set_cons_succ])
                    refine take_at (i := 8) (v := ?_) rfl (by kernel_rfl) (by kernel_rfl) (by kernel_rfl) (fun _ _ _ h => h) (Or.inl ⟨by rfl, ?_⟩) hH ?_
                    rotate_left
                    · (intro w hSw; (try dsimp only at hSw); go_simp; (try with_reducible rfl))
                    (try simp only [Act.put, List.setIfInBounds_toArray, List.set_cons_zero, List.set_cons_succ])
                    refine take_at (i := 9) (v := ?_) rfl (by kernel_rfl) (by kernel_rfl) (by kernel_rfl) (fun _ _ _ h => h) (Or.inl ⟨by rfl, ?_⟩) hH ?_
                    rotate_left
                    · (intro w hSw; (try dsimp only at hSw); go_simp; (try with_reducible rfl))
                    (try simp only [Act.put, List.setIfInBounds_toArray, List.set_cons_zero, List.set_cons_succ])
                    refine wpAnyH_ready (rs := [10]) (by kernel_rfl) (by simp) ?_
                    refine cons_at rfl (fun K hK => ?_) AllReadyH.nil
                    go_simp
                    go_at_call 55
                    refine (HLast.out _ hM).mono ?_
                    rintro e w6 ⟨rfl, hb⟩
                    replace hM := hM.below hb
                    replace hX := (hb.block _ (by exact lt_of_heap hX)).trans hX
                    replace hI : SetAt _ P2 _ _ _ _ _ := (hb.block _ (by exact lt_of_heap hI)).trans hI
                    replace hB := hB.trans (hb.mono hs)
                    replace hs := Nat.le_trans hs hb.size
                    clear hb
                    (try go_wp2_with fail)
                    clear hH
                    refine hK.out _ _ (by exact ⟨cell_of_row _ w1.heap.size 0 _ _ _ hX, cell_of_row _ w1.heap.size 1 _ _ _ hX, cell_of_row _ w1.heap.size 2 _ _ _ hX, cell_of_row _ w1.heap.size 3 _ _ _ hX, cell_of_row _ w1.heap.size 4 _ _ _ hX, cell_of_row _ w1.heap.size 5 _ _ _ hX, cell_of_row _ w1.heap.size 6 _ _ _ hX, cell_of_row _ w1.heap.size 7 _ _ _ hX, cell_of_row _ w1.heap.size 8 _ _ _ hX⟩) (fun hH => ?_)
                    clear hK K
                    (try simp only [Act.put, List.setIfInBounds_toArray, List.set_cons_zero, List.set_cons_succ])
                    refine take_at (i := 11) (v := ?_) rfl (by kernel_rfl) (by kernel_rfl) (by kernel_rfl) (fun _ _ _ h => h) (Or.inl ⟨by rfl, ?_⟩) hH ?_
                    rotate_left
                    · (intro w hSw; (try dsimp only at hSw); go_simp; (try with_reducible rfl))
                    (try simp only [Act.put, List.setIfInBounds_toArray, List.set_cons_zero, List.set_cons_succ])
                    refine wpAnyH_ready (rs := [12]) (by kernel_rfl) (by simp) ?_
                    refine cons_at rfl (fun K hK => ?_) AllReadyH.nil
                    go_simp
                    go_at_call 72
                    refine (HOf.out _).mono ?_
                    rintro e w7 ⟨rfl, hb⟩
                    replace hM := hM.below hb
                    replace hX := (hb.block _ (by exact lt_of_heap hX)).trans hX
                    replace hI : SetAt _ P2 _ _ _ _ _ := (hb.block _ (by exact lt_of_heap hI)).trans hI
                    replace hB := hB.trans (hb.mono hs)
                    replace hs := Nat.le_trans hs hb.size
                    clear hb
                    (try go_wp2_with fail)
                    clear hH
                    refine hK.out _ _ (by exact ⟨cell_of_row _ w1.heap.size 0 _ _ _ hX, cell_of_row _ w1.heap.size 1 _ _ _ hX, cell_of_row _ w1.heap.size 2 _ _ _ hX, cell_of_row _ w1.heap.size 3 _ _ _ hX, cell_of_row _ w1.heap.size 4 _ _ _ hX, cell_of_row _ w1.heap.size 5 _ _ _ hX, cell_of_row _ w1.heap.size 6 _ _ _ hX, cell_of_row _ w1.heap.size 7 _ _ _ hX, cell_of_row _ w1.heap.size 8 _ _ _ hX⟩) (fun hH => ?_)
                    clear hK K
                    (try simp only [Act.put, List.setIfInBounds_toArray, List.set_cons_zero, List.set_cons_succ])
                    refine take_at (i := 13) (v := ?_) rfl (by kernel_rfl) (by kernel_rfl) (by kernel_rfl) (fun _ _ _ h => h) (Or.inl ⟨by rfl, ?_⟩) hH ?_
                    rotate_left
                    · (intro w hSw; (try dsimp only at hSw); go_simp; (try with_reducible rfl))
                    (try simp only [Act.put, List.setIfInBounds_toArray, List.set_cons_zero, List.set_cons_succ])
                    refine take_at (i := 14) (v := ?_) rfl (by kernel_rfl) (by kernel_rfl) (by kernel_rfl) (fun _ _ _ h => h) (Or.inl ⟨by rfl, ?_⟩) hH ?_
                    rotate_left
                    · (intro w hSw; (try dsimp only at hSw); go_simp; (try with_reducible rfl))
                    (try simp only [Act.put, List.setIfInBounds_toArray, List.set_cons_zero, List.set_cons_succ])
                    refine take_at (i := 15) (v := ?_) rfl (by kernel_rfl) (by kernel_rfl) (by kernel_rfl) (fun _ _ _ h => h) (Or.inl ⟨by rfl, ?_⟩) hH ?_
                    rotate_left
                    · (intro w hSw; (try dsimp only at hSw); go_simp; (try with_reducible rfl))
                    (try simp only [Act.put, List.setIfInBounds_toArray, List.set_cons_zero, List.set_cons_succ])
                    refine take_at (i := 16) (v := ?_) rfl (by kernel_rfl) (by kernel_rfl) (by kernel_rfl) (fun _ _ _ h => h) (Or.inl ⟨by rfl, ?_⟩) hH ?_
                    rotate_left
                    · (intro w hSw; (try dsimp only at hSw); go_simp; (try with_reducible rfl))
                    (try simp only [Act.put, List.setIfInBounds_toArray, List.set_cons_zero, List.set_cons_succ])
                    refine take_at (i := 17) (v := ?_) rfl (by kernel_rfl) (by kernel_rfl) (by kernel_rfl) (fun _ _ _ h => h) (Or.inl ⟨by rfl, ?_⟩) hH ?_
                    rotate_left
                    · (intro w hSw; (try dsimp only at hSw); go_simp; (try with_reducible rfl))
                    (try simp only [Act.put, List.setIfInBounds_toArray, List.set_cons_zero, List.set_cons_succ])
                    refine take_at (i := 18) (v := ?_) rfl (by kernel_rfl) (by kernel_rfl) (by kernel_rfl) (fun _ _ _ h => h) (Or.inl ⟨by rfl, ?_⟩) hH ?_
                    rotate_left
                    · (intro w hSw; (try dsimp only at hSw); go_simp; (try with_reducible rfl))
                    (try simp only [Act.put, List.setIfInBounds_toArray, List.set_cons_zero, List.set_cons_succ])
                    refine wpAnyH_done (by kernel_rfl) ?_ _
                    refine NoPanic.normal ?_
                    clear hH
                    rcases hd with ⟨rfl, rfl, hQ'⟩ | ⟨rfl, rfl⟩
                    · go_wp2
                      go_roundw
                      case rel => exact ⟨k3 + 1, m6, pc2, wv2, since2, at2, _, by go_num, rfl, hQ', hM, hI, hX, hB, hs⟩
                      case measure => simp [intOf]; omega
                    · go_wp2_with fail
                      refine (SetFreed P2 pc2 wv2 since2 at2 true _ hI).mono ?_
                      rintro e w8 ⟨rfl, hw8⟩
                      obtain rfl := hw8.symm
                      clear hw8
                      go_wp2_with fail
                      refine (AdvWent_nil _).mono ?_
                      rintro e w8 ⟨rfl, hw8⟩
                      obtain rfl := hw8.symm
                      clear hw8
                      go_wp2_with fail
                      refine (SetFreed_nil _).mono ?_
                      rintro e w8 ⟨rfl, hw8⟩
                      obtain rfl := hw8.symm
                      clear hw8
                      go_wp2
                      go_ret
                      exact ⟨rfl, hB⟩
                  · skip
                    refine wp_region_noPanic ?_
                    refine wp_region_held_drew (S := (fun w' => w'.cell? ⟨w1.heap.size, 0, none⟩ = some (.int .i64 4) ∧ w'.cell? ⟨w1.heap.size, 1, none⟩ = some (.int .i64 1) ∧ w'.cell? ⟨w1.heap.size, 2, none⟩ = some (.int .i64 2) ∧ w'.cell? ⟨w1.heap.size, 3, none⟩ = some (.int .i64 30) ∧ w'.cell? ⟨w1.heap.size, 4, none⟩ = some (.int .i64 100) ∧ w'.cell? ⟨w1.heap.size, 5, none⟩ = some (.int .i64 600) ∧ w'.cell? ⟨w1.heap.size, 6, none⟩ = some (.int .i64 3) ∧ w'.cell? ⟨w1.heap.size, 7, none⟩ = some (.pointer (some ⟨g, 0, none⟩)) ∧ w'.cell? ⟨w1.heap.size, 8, none⟩ = some (.int .i64 0))) (by kernel_rfl) (by exact ⟨cell_of_row _ w1.heap.size 0 _ _ _ hX, cell_of_row _ w1.heap.size 1 _ _ _ hX, cell_of_row _ w1.heap.size 2 _ _ _ hX, cell_of_row _ w1.heap.size 3 _ _ _ hX, cell_of_row _ w1.heap.size 4 _ _ _ hX, cell_of_row _ w1.heap.size 5 _ _ _ hX, cell_of_row _ w1.heap.size 6 _ _ _ hX, cell_of_row _ w1.heap.size 7 _ _ _ hX, cell_of_row _ w1.heap.size 8 _ _ _ hX⟩) (fun hH => ?_)
                    refine take_at (i := 0) (v := ?_) rfl (by kernel_rfl) (by kernel_rfl) (by kernel_rfl) (fun _ _ _ h => h) (Or.inl ⟨by rfl, ?_⟩) hH ?_
                    rotate_left
                    · (intro w hSw; (try dsimp only at hSw); go_simp; (try with_reducible rfl))
                    (try simp only [Act.put, List.setIfInBounds_toArray, List.set_cons_zero, List.set_cons_succ])
                    refine take_at (i := 2) (v := ?_) rfl (by kernel_rfl) (by kernel_rfl) (by kernel_rfl) (fun _ _ _ h => h) (Or.inl ⟨by rfl, ?_⟩) hH ?_
                    rotate_left
                    · (intro w hSw; (try dsimp only at hSw); go_simp; (try with_reducible rfl))
                    (try simp only [Act.put, List.setIfInBounds_toArray, List.set_cons_zero, List.set_cons_succ])
                    refine take_at (i := 3) (v := ?_) rfl (by kernel_rfl) (by kernel_rfl) (by kernel_rfl) (fun _ _ _ h => h) (Or.inl ⟨by rfl, ?_⟩) hH ?_
                    rotate_left
                    · (intro w hSw; (try dsimp only at hSw); go_simp; (try with_reducible rfl))
                    (try simp only [Act.put, List.setIfInBounds_toArray, List.set_cons_zero, List.set_cons_succ])
                    refine wpAnyH_ready (rs := [1]) (by kernel_rfl) (by simp) ?_
                    refine cons_at rfl (fun K hK => ?_) AllReadyH.nil
                    go_simp
                    go_at_call 66
                    refine (HNow.out _ hM).mono ?_
                    rintro e w5 ⟨rfl, hb⟩
                    replace hM := hM.below hb
                    replace hX := (hb.block _ (by exact lt_of_heap hX)).trans hX
                    replace hI : SetAt _ P2 _ _ _ _ _ := (hb.block _ (by exact lt_of_heap hI)).trans hI
                    replace hB := hB.trans (hb.mono hs)
                    replace hs := Nat.le_trans hs hb.size
                    clear hb
                    (try go_wp2_with fail)
                    clear hH
                    refine hK.out _ _ (by exact ⟨cell_of_row _ w1.heap.size 0 _ _ _ hX, cell_of_row _ w1.heap.size 1 _ _ _ hX, cell_of_row _ w1.heap.size 2 _ _ _ hX, cell_of_row _ w1.heap.size 3 _ _ _ hX, cell_of_row _ w1.heap.size 4 _ _ _ hX, cell_of_row _ w1.heap.size 5 _ _ _ hX, cell_of_row _ w1.heap.size 6 _ _ _ hX, cell_of_row _ w1.heap.size 7 _ _ _ hX, cell_of_row _ w1.heap.size 8 _ _ _ hX⟩) (fun hH => ?_)
                    clear hK K
                    (try simp only [Act.put, List.setIfInBounds_toArray, List.set_cons_zero, List.set_cons_succ])
                    refine take_at (i := 4) (v := ?_) rfl (by kernel_rfl) (by kernel_rfl) (by kernel_rfl) (fun _ _ _ h => h) (Or.inl ⟨by rfl, ?_⟩) hH ?_
                    rotate_left
                    · (intro w hSw; (try dsimp only at hSw); go_simp; (try with_reducible rfl))
                    (try simp only [Act.put, List.setIfInBounds_toArray, List.set_cons_zero, List.set_cons_succ])
                    refine take_at (i := 5) (v := ?_) rfl (by kernel_rfl) (by kernel_rfl) (by kernel_rfl) (fun _ _ _ h => h) (Or.inl ⟨by rfl, ?_⟩) hH ?_
                    rotate_left
                    · (intro w hSw; (try dsimp only at hSw); go_simp; (try with_reducible rfl))
                    (try simp only [Act.put, List.setIfInBounds_toArray, List.set_cons_zero, List.set_cons_succ])
                    refine take_at (i := 6) (v := ?_) rfl (by kernel_rfl) (by kernel_rfl) (by kernel_rfl) (fun _ _ _ h => h) (Or.inl ⟨by rfl, ?_⟩) hH ?_
                    rotate_left
                    · (intro w hSw; (try dsimp only at hSw); go_simp; (try with_reducible rfl))
                    (try simp only [Act.put, List.setIfInBounds_toArray, List.set_cons_zero, List.set_cons_succ])
                    refine take_at (i := 7) (v := ?_) rfl (by kernel_rfl) (by kernel_rfl) (by kernel_rfl) (fun _ _ _ h => h) (Or.inl ⟨by rfl, ?_⟩) hH ?_
                    rotate_left
                    · (intro w hSw; (try dsimp only at hSw); go_simp; (try with_reducible rfl))
                    (try simp only [Act.put, List.setIfInBounds_toArray, List.set_cons_zero, List.set_cons_succ])
                    refine take_at (i := 8) (v := ?_) rfl (by kernel_rfl) (by kernel_rfl) (by kernel_rfl) (fun _ _ _ h => h) (Or.inl ⟨by rfl, ?_⟩) hH ?_
                    rotate_left
                    · (intro w hSw; (try dsimp only at hSw); go_simp; (try with_reducible rfl))
                    (try simp only [Act.put, List.setIfInBounds_toArray, List.set_cons_zero, List.set_cons_succ])
                    refine take_at (i := 9) (v := ?_) rfl (by kernel_rfl) (by kernel_rfl) (by kernel_rfl) (fun _ _ _ h => h) (Or.inl ⟨by rfl, ?_⟩) hH ?_
                    rotate_left
                    · (intro w hSw; (try dsimp only at hSw); go_simp; (try with_reducible rfl))
                    (try simp only [Act.put, List.setIfInBounds_toArray, List.set_cons_zero, List.set_cons_succ])
                    refine wpAnyH_ready (rs := [10]) (by kernel_rfl) (by simp) ?_
                    refine cons_at rfl (fun K hK => ?_) AllReadyH.nil
                    go_simp
                    go_at_call 55
                    refine (HLast.out _ hM).mono ?_
                    rintro e w6 ⟨rfl, hb⟩
                    replace hM := hM.below hb
                    replace hX := (hb.block _ (by exact lt_of_heap hX)).trans hX
                    replace hI : SetAt _ P2 _ _ _ _ _ := (hb.block _ (by exact lt_of_heap hI)).trans hI
                    replace hB := hB.trans (hb.mono hs)
                    replace hs := Nat.le_trans hs hb.size
                    clear hb
                    (try go_wp2_with fail)
                    clear hH
                    refine hK.out _ _ (by exact ⟨cell_of_row _ w1.heap.size 0 _ _ _ hX, cell_of_row _ w1.heap.size 1 _ _ _ hX, cell_of_row _ w1.heap.size 2 _ _ _ hX, cell_of_row _ w1.heap.size 3 _ _ _ hX, cell_of_row _ w1.heap.size 4 _ _ _ hX, cell_of_row _ w1.heap.size 5 _ _ _ hX, cell_of_row _ w1.heap.size 6 _ _ _ hX, cell_of_row _ w1.heap.size 7 _ _ _ hX, cell_of_row _ w1.heap.size 8 _ _ _ hX⟩) (fun hH => ?_)
                    clear hK K
                    (try simp only [Act.put, List.setIfInBounds_toArray, List.set_cons_zero, List.set_cons_succ])
                    refine take_at (i := 11) (v := ?_) rfl (by kernel_rfl) (by kernel_rfl) (by kernel_rfl) (fun _ _ _ h => h) (Or.inl ⟨by rfl, ?_⟩) hH ?_
                    rotate_left
                    · (intro w hSw; (try dsimp only at hSw); go_simp; (try with_reducible rfl))
                    (try simp only [Act.put, List.setIfInBounds_toArray, List.set_cons_zero, List.set_cons_succ])
                    refine wpAnyH_ready (rs := [12]) (by kernel_rfl) (by simp) ?_
                    refine cons_at rfl (fun K hK => ?_) AllReadyH.nil
                    go_simp
                    go_at_call 72
                    refine (HOf.out _).mono ?_
                    rintro e w7 ⟨rfl, hb⟩
                    replace hM := hM.below hb
                    replace hX := (hb.block _ (by exact lt_of_heap hX)).trans hX
                    replace hI : SetAt _ P2 _ _ _ _ _ := (hb.block _ (by exact lt_of_heap hI)).trans hI
                    replace hB := hB.trans (hb.mono hs)
                    replace hs := Nat.le_trans hs hb.size
                    clear hb
                    (try go_wp2_with fail)
                    clear hH
                    refine hK.out _ _ (by exact ⟨cell_of_row _ w1.heap.size 0 _ _ _ hX, cell_of_row _ w1.heap.size 1 _ _ _ hX, cell_of_row _ w1.heap.size 2 _ _ _ hX, cell_of_row _ w1.heap.size 3 _ _ _ hX, cell_of_row _ w1.heap.size 4 _ _ _ hX, cell_of_row _ w1.heap.size 5 _ _ _ hX, cell_of_row _ w1.heap.size 6 _ _ _ hX, cell_of_row _ w1.heap.size 7 _ _ _ hX, cell_of_row _ w1.heap.size 8 _ _ _ hX⟩) (fun hH => ?_)
                    clear hK K
                    (try simp only [Act.put, List.setIfInBounds_toArray, List.set_cons_zero, List.set_cons_succ])
                    refine take_at (i := 13) (v := ?_) rfl (by kernel_rfl) (by kernel_rfl) (by kernel_rfl) (fun _ _ _ h => h) (Or.inl ⟨by rfl, ?_⟩) hH ?_
                    rotate_left
                    · (intro w hSw; (try dsimp only at hSw); go_simp; (try with_reducible rfl))
                    (try simp only [Act.put, List.setIfInBounds_toArray, List.set_cons_zero, List.set_cons_succ])
                    refine take_at (i := 14) (v := ?_) rfl (by kernel_rfl) (by kernel_rfl) (by kernel_rfl) (fun _ _ _ h => h) (Or.inl ⟨by rfl, ?_⟩) hH ?_
                    rotate_left
                    · (intro w hSw; (try dsimp only at hSw); go_simp; (try with_reducible rfl))
                    (try simp only [Act.put, List.setIfInBounds_toArray, List.set_cons_zero, List.set_cons_succ])
                    refine take_at (i := 15) (v := undef) rfl (by kernel_rfl) (by kernel_rfl) (by kernel_rfl) (fun _ _ _ h => h) (Or.inr ⟨by rfl, rfl⟩) hH ?_
                    (try simp only [Act.put, List.setIfInBounds_toArray, List.set_cons_zero, List.set_cons_succ])
                    refine take_at (i := 16) (v := undef) rfl (by kernel_rfl) (by kernel_rfl) (by kernel_rfl) (fun _ _ _ h => h) (Or.inr ⟨by rfl, rfl⟩) hH ?_
                    (try simp only [Act.put, List.setIfInBounds_toArray, List.set_cons_zero, List.set_cons_succ])
                    refine take_at (i := 17) (v := ?_) rfl (by kernel_rfl) (by kernel_rfl) (by kernel_rfl) (fun _ _ _ h => h) (Or.inl ⟨by rfl, ?_⟩) hH ?_
                    rotate_left
                    · (intro w hSw; (try dsimp only at hSw); go_simp; (try with_reducible rfl))
                    (try simp only [Act.put, List.setIfInBounds_toArray, List.set_cons_zero, List.set_cons_succ])
                    refine take_at (i := 18) (v := ?_) rfl (by kernel_rfl) (by kernel_rfl) (by kernel_rfl) (fun _ _ _ h => h) (Or.inl ⟨by rfl, ?_⟩) hH ?_
                    rotate_left
                    · (intro w hSw; (try dsimp only at hSw); go_simp; (try with_reducible rfl))
                    (try simp only [Act.put, List.setIfInBounds_toArray, List.set_cons_zero, List.set_cons_succ])
                    refine wpAnyH_done (by kernel_rfl) ?_ _
                    refine NoPanic.normal ?_
                    clear hH
                    rcases hd with ⟨rfl, rfl, hQ'⟩ | ⟨rfl, rfl⟩
                    · go_wp2
                      go_roundw
                      case rel => exact ⟨k3 + 1, m6, pc2, wv2, since2, at2, _, by go_num, rfl, hQ', hM, hI, hX, hB, hs⟩
                      case measure => simp [intOf]; omega
                    · go_wp2_with fail
                      refine (SetFreed P2 pc2 wv2 since2 at2 true _ hI).mono ?_
                      rintro e w8 ⟨rfl, hw8⟩
                      obtain rfl := hw8.symm
                      clear hw8
                      go_wp2_with fail
                      refine (AdvWent_nil _).mono ?_
                      rintro e w8 ⟨rfl, hw8⟩
                      obtain rfl := hw8.symm
                      clear hw8
                      go_wp2_with fail
                      refine (SetFreed_nil _).mono ?_
                      rintro e w8 ⟨rfl, hw8⟩
                      obtain rfl := hw8.symm
                      clear hw8
                      go_wp2
                      go_ret
                      exact ⟨rfl, hB⟩
      · clear hlt
        have hG0 : Hid (AGood 4 m 0 m 0 0 0) := ⟨rfl, by omega, rfl, .inl ⟨rfl, rfl, rfl⟩⟩
        have hPP := hX
        have hI : AdvAt (U.alloc (.cells #[.int .i64 0, .int .u64 0, .int .i64 0, .bool false] 107)) U.heap.size 0 0 0 false := heap_alloc_new U _
        have npP : U.heap.size ≠ g ∧ U.heap.size ≠ gw ∧ U.heap.size ≠ gh := by have := hM.lt; have := hM.ltw; have := hM.lth; omega
        have hnx : w1.heap.size ∉ [U.heap.size, g, gw, gh] := by have := lt_of_heap hX; simp; omega
        have hbl : ∀ k ∈ [U.heap.size, g, gw, gh], w.heap.size ≤ k := by simp; omega
        have hb := below_new U (.cells #[.int .i64 0, .int .u64 0, .int .i64 0, .bool false] 107)
        have hM2 := hM.below hb
        have hX2 := (hb.block _ (by exact lt_of_heap hX)).trans hX
        have hB2 := hB.trans (hb.mono hs)
        have hs2 := Nat.le_trans hs hb.size
        clear hb hPP
        go_wp2_with fail
        clear hM hX hB hs
        generalize U.alloc (.cells #[.int .i64 0, .int .u64 0, .int .i64 0, .bool false] 107) = U2 at hI hM2 hX2 hB2 hs2 ⊢
        generalize U.heap.size = P at hI npP hnx hbl ⊢
        go_loopw [9, 10, 11] (fun i _ _ wr => ∃ (k2 : Nat) (m1 : Ms) (pc now at_ : Int) (U : World), i = .int .i64 k2 ∧ U = wr ∧ Hid (AGood 4 m k2 m1 pc now at_) ∧ MemAt U g gw gh m1 ∧ AdvAt U P pc now at_ false ∧ U.heap[w1.heap.size]? = some (.cells #[.int .i64 4, .int .i64 1, .int .i64 2, .int .i64 30, .int .i64 100, .int .i64 600, .int .i64 3, .pointer (some ⟨g, 0, none⟩), .int .i64 0] 87 (0, 0)) ∧ Below w.heap.size w U ∧ w.heap.size ≤ U.heap.size) (fun i _ _ _ => 20 - (intOf i).toNat)
        case atStart => exact ⟨0, _, 0, 0, 0, _, rfl, rfl, hG0, hM2, hI, hX2, hB2, hs2⟩
        case round =>
          clear hG0 hM2 hI hX2 hB2 hs2
          obtain ⟨k2, m1, pc, now, at_, V, rfl, rfl, hA, hM, hI, hX, hB, hs⟩ := hrel
          have hk2 : k2 ≤ 5 := by have := hA.out.le; omega
          have hk2i : (k2 : Int) < 20 := by omega
          have hst1 : m1.steps < 4611686018427387904 := by have := hA.out.steps; omega
          have hst0 := hM.st0
          obtain ⟨c0, c1, c2, c3, c4, c5, c6, c7, c8⟩ := env_cells hX
          go_wp2_with fail
          refine (ENow 4 1 2 30 100 600 3 0 g gw gh m1 _ hM).mono ?_
          rintro e V2 ⟨rfl, hb⟩
          replace hM := hM.below hb
          replace hX := (hb.block _ (by exact lt_of_heap hX)).trans hX
          replace hI : AdvAt _ P _ _ _ _ := (hb.block _ (by exact lt_of_heap hI)).trans hI
          replace hB := hB.trans (hb.mono hs)
          replace hs := Nat.le_trans hs hb.size
          clear hb c0 c1 c2 c3 c4 c5 c6 c7 c8
          obtain ⟨c0, c1, c2, c3, c4, c5, c6, c7, c8⟩ := env_cells hX
          obtain ⟨d, m2, pc', now', at', went', HC, ⟨hst2, hlc⟩, hd⟩ := AdvStep_all2 4 1 2 30 100 600 3 0 g gw gh P m m1 k2 pc now at_ _ hM hI npP (by omega) (by have := hG.out.n; omega) hst1 hA.out
          go_wp2_with fail
          refine HC.out.mono ?_
          rintro e w9 ⟨rfl, hM9, hI9, hK9⟩
          have hX9 := hK9.heap hX hnx
          have hB9 := hB.trans (hK9.below hbl hs)
          have hs9 := Nat.le_trans hs hK9.size
          clear hK9 HC hM hI hX hB hs c0 c1 c2 c3 c4 c5 c6 c7 c8
          have hM := hM9
          have hI := hI9
          have hX := hX9
          have hB := hB9
          have hs := hs9
          clear hM9 hI9 hX9 hB9 hs9
          have hwr : IntKind.i64.wrap (m1.steps + 1) = m1.steps + 1 := by rw [IntWalk.i64_left]; exact IntWalk.wrap64_in _ ⟨by omega, by omega⟩
          have HNow : Hid (∀ W, MemAt W g gw gh m2 → Calls Try.prog 66 #[.agg #[.int .i64 4, .int .i64 1, .int .i64 2, .int .i64 30, .int .i64 100, .int .i64 600, .int .i64 3, .pointer (some ⟨g, 0, none⟩), .int .i64 0]] W fun e W' => e = .returned (.int .i64 (m1.steps + 1)) ∧ Below W.heap.size W W') := by
            intro W h
            have := ENow 4 1 2 30 100 600 3 0 g gw gh m2 W h
            rw [hst2] at this; exact this
          have HD := Lib.hid hd
          have hlc2 : m2.lc = false ∨ (m2.lc = true ∧ m2.la = 0) := by
            cases hlc' : m2.lc
            · exact .inl rfl
            · rcases hlc with h | h
              · rw [hlc'] at h; cases h
              · exact .inr ⟨rfl, h⟩
          clear hd hlc hst2
          obtain ⟨c0, c1, c2, c3, c4, c5, c6, c7, c8⟩ := env_cells hX
          go_wp2_with fail
          refine (HNow.out _ hM).mono ?_
          rintro e V3 ⟨rfl, hb⟩
          replace hM := hM.below hb
          replace hX := (hb.block _ (by exact lt_of_heap hX)).trans hX
          replace hI : AdvAt _ P _ _ _ _ := (hb.block _ (by exact lt_of_heap hI)).trans hI
          replace hB := hB.trans (hb.mono hs)
          replace hs := Nat.le_trans hs hb.size
          clear hb c0 c1 c2 c3 c4 c5 c6 c7 c8
          obtain ⟨c0, c1, c2, c3, c4, c5, c6, c7, c8⟩ := env_cells hX
          rcases hlc2 with h | ⟨h, h0⟩
          · have HLast : Hid (∀ W, MemAt W g gw gh m2 → Calls Try.prog 55 #[.pointer (some ⟨g, 0, none⟩)] W fun e W' => e = .returned (.agg #[.int .i64 m2.la, .int .i64 m2.lw, .bool false]) ∧ Below W.heap.size W W') := by
              intro W hW
              have := Last_any g gw gh m2 W hW
              rw [h] at this; exact this
            clear h
            go_wp2_with fail
            refine (HLast.out _ hM).mono ?_
            rintro e V4 ⟨rfl, hb⟩
            replace hM := hM.below hb
            replace hX := (hb.block _ (by exact lt_of_heap hX)).trans hX
            replace hI : AdvAt _ P _ _ _ _ := (hb.block _ (by exact lt_of_heap hI)).trans hI
            replace hB := hB.trans (hb.mono hs)
            replace hs := Nat.le_trans hs hb.size
            clear hb c0 c1 c2 c3 c4 c5 c6 c7 c8
            rcases HD.out with ⟨rfl, rfl, hA'⟩ | ⟨rfl, hE⟩
            · have HA' := Lib.hid hA'
              clear hA' HD
              go_wp2
              go_roundw
              case rel => exact ⟨k2 + 1, m2, pc', now', at', _, by go_num, rfl, HA', hM, hI, hX, hB, hs⟩
              case measure => simp [intOf]; omega
            · have HE := Lib.hid hE
              clear hE HD
              go_wp2
              as_aux_lemma =>
                have HF : Hid (m2.n = 78 ∧ m2.steps ≤ 20 ∧ m2.w 14 = 0) := ⟨HE.out.n.trans hG.out.n, by have := HE.out.hi; have := hG.out.st; omega, (HE.out.w 14 (by omega)).trans hG.out.w14⟩
                obtain ⟨u, hu, hu1, hu2⟩ : ∃ u : Int, 1 + v0 = u ∧ 1 ≤ u ∧ u ≤ 16 := ⟨_, rfl, by omega, by omega⟩
                have hwu : IntKind.i64.wrap u = u := by rw [IntWalk.i64_left]; exact IntWalk.wrap64_in _ ⟨by omega, by omega⟩
                have HPC : Hid (∀ W, Calls Try.prog 34 #[.agg #[.int .i64 3, .int .i64 0, .int .i64 u, .int .i64 0]] W fun e w' => e = .returned (.int .u64 (3 + 256 * u)) ∧ Below W.heap.size W w') := by
                  intro W
                  have h := PutChunk_any 3 0 u 0 W
                  rw [put3 u hu1 hu2] at h
                  exact h
                clear hI HE hst0 hwr HNow HLast hnx npP hbl hst
                replace hM := hM.drew
                replace hB := hB.drew
                replace hX := heapDrew hX
                replace hs := sizeDrew hs
                (first | (go_region_held3 (fun w' => w'.cell? ⟨w1.heap.size, 0, none⟩ = some (.int .i64 4) ∧ w'.cell? ⟨w1.heap.size, 1, none⟩ = some (.int .i64 1) ∧ w'.cell? ⟨w1.heap.size, 2, none⟩ = some (.int .i64 2) ∧ w'.cell? ⟨w1.heap.size, 3, none⟩ = some (.int .i64 30) ∧ w'.cell? ⟨w1.heap.size, 4, none⟩ = some (.int .i64 100) ∧ w'.cell? ⟨w1.heap.size, 5, none⟩ = some (.int .i64 600) ∧ w'.cell? ⟨w1.heap.size, 6, none⟩ = some (.int .i64 3) ∧ w'.cell? ⟨w1.heap.size, 7, none⟩ = some (.pointer (some ⟨g, 0, none⟩)) ∧ w'.cell? ⟨w1.heap.size, 8, none⟩ = some (.int .i64 0))
                  (exact ⟨cell_of_row _ w1.heap.size 0 _ _ _ hX, cell_of_row _ w1.heap.size 1 _ _ _ hX, cell_of_row _ w1.heap.size 2 _ _ _ hX, cell_of_row _ w1.heap.size 3 _ _ _ hX, cell_of_row _ w1.heap.size 4 _ _ _ hX, cell_of_row _ w1.heap.size 5 _ _ _ hX, cell_of_row _ w1.heap.size 6 _ _ _ hX, cell_of_row _ w1.heap.size 7 _ _ _ hX, cell_of_row _ w1.heap.size 8 _ _ _ hX⟩)
                  (first
                    | (go_at_call 69; refine (LC0 _).mono ?_; rintro e w5 ⟨rfl, hb⟩; replace hM := hM.below hb; replace hX := (hb.block _ (by exact lt_of_heap hX)).trans hX; replace hB := hB.trans (hb.mono hs); replace hs := Nat.le_trans hs hb.size; clear hb)
                    | (go_at_call 34; refine (HPC.out _).mono ?_; rintro e w5 ⟨rfl, hb⟩; replace hM := hM.below hb; replace hX := (hb.block _ (by exact lt_of_heap hX)).trans hX; replace hB := hB.trans (hb.mono hs); replace hs := Nat.le_trans hs hb.size; clear hb)
                    | (go_at_call 51; refine (Store_yes g gw gh m2 12 (3 + 256 * u) _ hM (by rw [HF.out.1]; omega) (by have := HF.out.2.1; omega) (by omega)).mono ?_; rintro e w5 ⟨rfl, hM5, hK⟩; replace hX := hK.heap hX np.1 np.2.1 np.2.2; replace hB := hB.trans (hK.below b0 b1 b2 hs); replace hs := Nat.le_trans hs hK.size; replace hM := hM5; clear hM5 hK))) | fail)
                have HF3 : Hid (((m2.step 12).set 12 (3 + 256 * u)).n = 78 ∧ ((m2.step 12).set 12 (3 + 256 * u)).steps ≤ 21 ∧ ((m2.step 12).set 12 (3 + 256 * u)).w 14 = 0 ∧ ((m2.step 12).set 12 (3 + 256 * u)).w 12 = 3 + 256 * u) := ⟨HF.out.1, by have := HF.out.2.1; show m2.steps + 1 ≤ 21; omega, (upd_other m2.w 12 14 (3 + 256 * u) (by omega)).trans HF.out.2.2, upd_same m2.w 12 (3 + 256 * u)⟩
                clear HF hu hwu HPC
                generalize (m2.step 12).set 12 (3 + 256 * u) = m3 at hM HF3
                have c7 := cell_of_row _ w1.heap.size 7 _ _ _ hX
                go_wp2
                clear c7
                replace hM := hM.drew
                replace hB := hB.drew
                replace hX := heapDrew hX
                replace hs := sizeDrew hs
                (first | (go_region_held3 (fun w' => w'.cell? ⟨w1.heap.size, 0, none⟩ = some (.int .i64 4) ∧ w'.cell? ⟨w1.heap.size, 1, none⟩ = some (.int .i64 1) ∧ w'.cell? ⟨w1.heap.size, 2, none⟩ = some (.int .i64 2) ∧ w'.cell? ⟨w1.heap.size, 3, none⟩ = some (.int .i64 30) ∧ w'.cell? ⟨w1.heap.size, 4, none⟩ = some (.int .i64 100) ∧ w'.cell? ⟨w1.heap.size, 5, none⟩ = some (.int .i64 600) ∧ w'.cell? ⟨w1.heap.size, 6, none⟩ = some (.int .i64 3) ∧ w'.cell? ⟨w1.heap.size, 7, none⟩ = some (.pointer (some ⟨g, 0, none⟩)) ∧ w'.cell? ⟨w1.heap.size, 8, none⟩ = some (.int .i64 0))
                  (exact ⟨cell_of_row _ w1.heap.size 0 _ _ _ hX, cell_of_row _ w1.heap.size 1 _ _ _ hX, cell_of_row _ w1.heap.size 2 _ _ _ hX, cell_of_row _ w1.heap.size 3 _ _ _ hX, cell_of_row _ w1.heap.size 4 _ _ _ hX, cell_of_row _ w1.heap.size 5 _ _ _ hX, cell_of_row _ w1.heap.size 6 _ _ _ hX, cell_of_row _ w1.heap.size 7 _ _ _ hX, cell_of_row _ w1.heap.size 8 _ _ _ hX⟩)
                  (first
                    | (go_at_call 62; refine (LEpoch_any _).mono ?_; rintro e w5 ⟨rfl, hw5⟩; obtain rfl := hw5.symm; clear hw5)
                    | (go_at_call 51; refine (Store_yes g gw gh m3 0 9 _ hM (by rw [HF3.out.1]; omega) (by have := HF3.out.2.1; omega) (by omega)).mono ?_; rintro e wS ⟨rfl, hM5, hK⟩; replace hX := hK.heap hX np.1 np.2.1 np.2.2; replace hB := hB.trans (hK.below b0 b1 b2 hs); replace hs := Nat.le_trans hs hK.size; replace hM := hM5; clear hM5 hK))) | fail)
                have HQ0 : Hid (QS u 0 ((m3.step 0).set 0 9) 0 0 0 0) := ⟨HF3.out.1, by have := HF3.out.2.1; show m3.steps + 1 ≤ _; omega, upd_same m3.w 0 9, (upd_other m3.w 0 12 9 (by omega)).trans HF3.out.2.2.2, (upd_other m3.w 0 14 9 (by omega)).trans HF3.out.2.2.1, .inl ⟨rfl, rfl, rfl, rfl, rfl⟩⟩
                clear HF3
                generalize (m3.step 0).set 0 9 = m4 at hM HQ0
                go_wp2_with fail
                refine (NewSettle_any _).mono ?_
                rintro e w5 ⟨rfl, rfl⟩
                have hI : SetAt (wS.alloc (.cells #[.int .i64 0, .int .i64 0, .int .u64 0, .int .u64 0, .int .i64 0, .bool false] 122)) wS.heap.size 0 0 0 0 false := heap_alloc_new wS _
                have hb := below_new wS (.cells #[.int .i64 0, .int .i64 0, .int .u64 0, .int .u64 0, .int .i64 0, .bool false] 122)
                have npP : wS.heap.size ≠ g ∧ wS.heap.size ≠ gw ∧ wS.heap.size ≠ gh := by have := hM.lt; have := hM.ltw; have := hM.lth; omega
                have hnx : w1.heap.size ∉ [wS.heap.size, g, gw, gh] := by have := lt_of_heap hX; simp; omega
                have hbl : ∀ k ∈ [wS.heap.size, g, gw, gh], w.heap.size ≤ k := by simp; omega
                replace hM := hM.below hb
                replace hX := (hb.block _ (by exact lt_of_heap hX)).trans hX
                replace hB := hB.trans (hb.mono hs)
                replace hs := Nat.le_trans hs hb.size
                clear hb
                generalize wS.alloc (.cells #[.int .i64 0, .int .i64 0, .int .u64 0, .int .u64 0, .int .i64 0, .bool false] 122) = U4 at hI hM hX hB hs ⊢
                generalize wS.heap.size = P2 at hI npP hnx hbl ⊢
                go_wp2_with fail
                go_loopw [13] (fun i wr => ∃ (k3 : Nat) (m5 : Ms) (pc wv since at_ : Int) (U : World), i = .int .i64 k3 ∧ U = wr ∧ Hid (QS u k3 m5 pc wv since at_) ∧ MemAt U g gw gh m5 ∧ SetAt U P2 pc wv since at_ false ∧ U.heap[w1.heap.size]? = some (.cells #[.int .i64 4, .int .i64 1, .int .i64 2, .int .i64 30, .int .i64 100, .int .i64 600, .int .i64 3, .pointer (some ⟨g, 0, none⟩), .int .i64 0] 87 (0, 0)) ∧ Below w.heap.size w U ∧ w.heap.size ≤ U.heap.size) (fun i _ => 60 - (intOf i).toNat)
                case atStart => exact ⟨0, _, 0, 0, 0, 0, _, rfl, rfl, HQ0, hM, hI, hX, hB, hs⟩
                case round =>
                  clear HQ0 hM hI hX hB hs
                  obtain ⟨k3, m5, pcs, wvs, sis, ats, V9, rfl, rfl, hQ, hM, hI, hX, hB, hs⟩ := hrel
                  have hk3 : k3 ≤ 20 := hQ.out.le ⟨hu1, hu2⟩
                  have hk3i : (k3 : Int) < 60 := by omega
                  have hst5 := hM.st0
                  have hst6 : m5.steps ≤ 100 := by have := hQ.out.st; omega
                  have hwr5 : IntKind.i64.wrap (m5.steps + 1) = m5.steps + 1 := by rw [IntWalk.i64_left]; exact IntWalk.wrap64_in _ ⟨by omega, by omega⟩
                  have HN12 : Hid (12 < m5.n) := by have := hQ.out.n; show 12 < m5.n; omega
                  go_wp2
                  replace hM := hM.drew
                  replace hB := hB.drew
                  replace hX : V9.drew.heap[w1.heap.size]? = _ := hX
                  replace hI : SetAt V9.drew P2 _ _ _ _ _ := hI
                  replace hs : w.heap.size ≤ V9.drew.heap.size := hs
                  (first | (go_region_held3 (fun w' => w'.cell? ⟨w1.heap.size, 0, none⟩ = some (.int .i64 4) ∧ w'.cell? ⟨w1.heap.size, 1, none⟩ = some (.int .i64 1) ∧ w'.cell? ⟨w1.heap.size, 2, none⟩ = some (.int .i64 2) ∧ w'.cell? ⟨w1.heap.size, 3, none⟩ = some (.int .i64 30) ∧ w'.cell? ⟨w1.heap.size, 4, none⟩ = some (.int .i64 100) ∧ w'.cell? ⟨w1.heap.size, 5, none⟩ = some (.int .i64 600) ∧ w'.cell? ⟨w1.heap.size, 6, none⟩ = some (.int .i64 3) ∧ w'.cell? ⟨w1.heap.size, 7, none⟩ = some (.pointer (some ⟨g, 0, none⟩)) ∧ w'.cell? ⟨w1.heap.size, 8, none⟩ = some (.int .i64 0))
                    (exact ⟨cell_of_row _ w1.heap.size 0 _ _ _ hX, cell_of_row _ w1.heap.size 1 _ _ _ hX, cell_of_row _ w1.heap.size 2 _ _ _ hX, cell_of_row _ w1.heap.size 3 _ _ _ hX, cell_of_row _ w1.heap.size 4 _ _ _ hX, cell_of_row _ w1.heap.size 5 _ _ _ hX, cell_of_row _ w1.heap.size 6 _ _ _ hX, cell_of_row _ w1.heap.size 7 _ _ _ hX, cell_of_row _ w1.heap.size 8 _ _ _ hX⟩)
                    (first
                      | (go_at_call 66; refine (ENow 4 1 2 30 100 600 3 0 g gw gh m5 _ hM).mono ?_; rintro e w5 ⟨rfl, hb⟩; replace hM := hM.below hb; replace hX := (hb.block _ (by exact lt_of_heap hX)).trans hX; replace hI : SetAt _ P2 _ _ _ _ _ := (hb.block _ (by exact lt_of_heap hI)).trans hI; replace hB := hB.trans (hb.mono hs); replace hs := Nat.le_trans hs hb.size; clear hb)
                      | (go_at_call 69; refine (LC0 _).mono ?_; rintro e w5 ⟨rfl, hb⟩; replace hM := hM.below hb; replace hX := (hb.block _ (by exact lt_of_heap hX)).trans hX; replace hI : SetAt _ P2 _ _ _ _ _ := (hb.block _ (by exact lt_of_heap hI)).trans hI; replace hB := hB.trans (hb.mono hs); replace hs := Nat.le_trans hs hb.size; clear hb)
                      | (go_at_call 49; refine (Peek_val g gw gh m5 12 (3 + 256 * u) _ hM HN12.out hQ.out.w12).mono ?_; rintro e w5 ⟨rfl, hw5⟩; obtain rfl := hw5.symm; clear hw5)
                      | (go_at_call 36; refine (Chunk_at (3 + 256 * u) 3 0 u 0 _ (zdec u ⟨hu1, hu2⟩)).mono ?_; rintro e w5 ⟨rfl, hb⟩; replace hM := hM.below hb; replace hX := (hb.block _ (by exact lt_of_heap hX)).trans hX; replace hI : SetAt _ P2 _ _ _ _ _ := (hb.block _ (by exact lt_of_heap hI)).trans hI; replace hB := hB.trans (hb.mono hs); replace hs := Nat.le_trans hs hb.size; clear hb))) | fail)
                  obtain ⟨d, m6, pc2, wv2, since2, at2, fr2, hst7, ⟨la, hla, hla2⟩, hd, HC⟩ := SetStep_all u ⟨hu1, hu2⟩ g gw gh P2 k3 m5 pcs wvs sis ats _ hM hI npP hQ.out
                  obtain ⟨c0, c1, c2, c3, c4, c5, c6, c7, c8⟩ := env_cells hX
                  go_wp2_with fail
                  refine HC.out.mono ?_
                  rintro e w9 ⟨rfl, hM9, hI9, hK9⟩
                  have hX9 := hK9.heap hX hnx
                  have hB9 := hB.trans (hK9.below hbl hs)
                  have hs9 := Nat.le_trans hs hK9.size
                  clear hK9 HC hM hI hX hB hs c0 c1 c2 c3 c4 c5 c6 c7 c8
                  have hM := hM9
                  have hI := hI9
                  have hX := hX9
                  have hB := hB9
                  have hs := hs9
                  clear hM9 hI9 hX9 hB9 hs9
                  have HNow : Hid (∀ W, MemAt W g gw gh m6 → Calls Try.prog 66 #[.agg #[.int .i64 4, .int .i64 1, .int .i64 2, .int .i64 30, .int .i64 100, .int .i64 600, .int .i64 3, .pointer (some ⟨g, 0, none⟩), .int .i64 0]] W fun e W' => e = .returned (.int .i64 (m5.steps + 1)) ∧ Below W.heap.size W W') := by
                    intro W h
                    have := ENow 4 1 2 30 100 600 3 0 g gw gh m6 W h
                    rw [hst7] at this; exact this
                  have HLast : Hid (∀ W, MemAt W g gw gh m6 → Calls Try.prog 55 #[.pointer (some ⟨g, 0, none⟩)] W fun e W' => e = .returned (.agg #[.int .i64 (la : Nat), .int .i64 m6.lw, .bool m6.lc]) ∧ Below W.heap.size W W') := by
                    intro W h
                    have := Last_any g gw gh m6 W h
                    rw [hla] at this; exact this
                  obtain ⟨r, hr, HOf⟩ := LOf_any la hla2
                  clear hst7 hla hla2
                  go_wp2
                  replace hM := hM.drew
                  replace hB := hB.drew
                  replace hX : w9.drew.heap[w1.heap.size]? = _ := hX
                  replace hI : SetAt w9.drew P2 _ _ _ _ _ := hI
                  replace hs : w.heap.size ≤ w9.drew.heap.size := hs
                  rcases hr with rfl | rfl
                  · skip
                    refine wp_region_noPanic ?_
                    refine wp_region_held_drew (S := (fun w' => w'.cell? ⟨w1.heap.size, 0, none⟩ = some (.int .i64 4) ∧ w'.cell? ⟨w1.heap.size, 1, none⟩ = some (.int .i64 1) ∧ w'.cell? ⟨w1.heap.size, 2, none⟩ = some (.int .i64 2) ∧ w'.cell? ⟨w1.heap.size, 3, none⟩ = some (.int .i64 30) ∧ w'.cell? ⟨w1.heap.size, 4, none⟩ = some (.int .i64 100) ∧ w'.cell? ⟨w1.heap.size, 5, none⟩ = some (.int .i64 600) ∧ w'.cell? ⟨w1.heap.size, 6, none⟩ = some (.int .i64 3) ∧ w'.cell? ⟨w1.heap.size, 7, none⟩ = some (.pointer (some ⟨g, 0, none⟩)) ∧ w'.cell? ⟨w1.heap.size, 8, none⟩ = some (.int .i64 0))) (by kernel_rfl) (by exact ⟨cell_of_row _ w1.heap.size 0 _ _ _ hX, cell_of_row _ w1.heap.size 1 _ _ _ hX, cell_of_row _ w1.heap.size 2 _ _ _ hX, cell_of_row _ w1.heap.size 3 _ _ _ hX, cell_of_row _ w1.heap.size 4 _ _ _ hX, cell_of_row _ w1.heap.size 5 _ _ _ hX, cell_of_row _ w1.heap.size 6 _ _ _ hX, cell_of_row _ w1.heap.size 7 _ _ _ hX, cell_of_row _ w1.heap.size 8 _ _ _ hX⟩) (fun hH => ?_)
                    refine take_at (i := 0) (v := ?_) rfl (by kernel_rfl) (by kernel_rfl) (by kernel_rfl) (fun _ _ _ h => h) (Or.inl ⟨by rfl, ?_⟩) hH ?_
                    rotate_left
                    · (intro w hSw; (try dsimp only at hSw); go_simp; (try with_reducible rfl))
                    (try simp only [Act.put, List.setIfInBounds_toArray, List.set_cons_zero, List.set_cons_succ])
                    refine take_at (i := 2) (v := ?_) rfl (by kernel_rfl) (by kernel_rfl) (by kernel_rfl) (fun _ _ _ h => h) (Or.inl ⟨by rfl, ?_⟩) hH ?_
                    rotate_left
                    · (intro w hSw; (try dsimp only at hSw); go_simp; (try with_reducible rfl))
                    (try simp only [Act.put, List.setIfInBounds_toArray, List.set_cons_zero, List.set_cons_succ])
                    refine take_at (i := 3) (v := ?_) rfl (by kernel_rfl) (by kernel_rfl) (by kernel_rfl) (fun _ _ _ h => h) (Or.inl ⟨by rfl, ?_⟩) hH ?_
                    rotate_left
                    · (intro w hSw; (try dsimp only at hSw); go_simp; (try with_reducible rfl))
                    (try simp only [Act.put, List.setIfInBounds_toArray, List.set_cons_zero, List.set_cons_succ])
                    refine wpAnyH_ready (rs := [1]) (by kernel_rfl) (by simp) ?_
                    refine cons_at rfl (fun K hK => ?_) AllReadyH.nil
                    go_simp
                    go_at_call 66
                    refine (HNow.out _ hM).mono ?_
                    rintro e w5 ⟨rfl, hb⟩
                    replace hM := hM.below hb
                    replace hX := (hb.block _ (by exact lt_of_heap hX)).trans hX
                    replace hI : SetAt _ P2 _ _ _ _ _ := (hb.block _ (by exact lt_of_heap hI)).trans hI
                    replace hB := hB.trans (hb.mono hs)
                    replace hs := Nat.le_trans hs hb.size
                    clear hb
                    (try go_wp2_with fail)
                    clear hH
                    refine hK.out _ _ (by exact ⟨cell_of_row _ w1.heap.size 0 _ _ _ hX, cell_of_row _ w1.heap.size 1 _ _ _ hX, cell_of_row _ w1.heap.size 2 _ _ _ hX, cell_of_row _ w1.heap.size 3 _ _ _ hX, cell_of_row _ w1.heap.size 4 _ _ _ hX, cell_of_row _ w1.heap.size 5 _ _ _ hX, cell_of_row _ w1.heap.size 6 _ _ _ hX, cell_of_row _ w1.heap.size 7 _ _ _ hX, cell_of_row _ w1.heap.size 8 _ _ _ hX⟩) (fun hH => ?_)
                    clear hK K
                    (try simp only [Act.put, List.setIfInBounds_toArray, List.set_cons_zero, List.set_cons_succ])
                    refine take_at (i := 4) (v := ?_) rfl (by kernel_rfl) (by kernel_rfl) (by kernel_rfl) (fun _ _ _ h => h) (Or.inl ⟨by rfl, ?_⟩) hH ?_
                    rotate_left
                    · (intro w hSw; (try dsimp only at hSw); go_simp; (try with_reducible rfl))
                    (try simp only [Act.put, List.setIfInBounds_toArray, List.set_cons_zero, List.set_cons_succ])
                    refine take_at (i := 5) (v := ?_) rfl (by kernel_rfl) (by kernel_rfl) (by kernel_rfl) (fun _ _ _ h => h) (Or.inl ⟨by rfl, ?_⟩) hH ?_
                    rotate_left
                    · (intro w hSw; (try dsimp only at hSw); go_simp; (try with_reducible rfl))
                    (try simp only [Act.put, List.setIfInBounds_toArray, List.set_cons_zero, List.set_cons_succ])
                    refine take_at (i := 6) (v := ?_) rfl (by kernel_rfl) (by kernel_rfl) (by kernel_rfl) (fun _ _ _ h => h) (Or.inl ⟨by rfl, ?_⟩) hH ?_
                    rotate_left
                    · (intro w hSw; (try dsimp only at hSw); go_simp; (try with_reducible rfl))
                    (try simp only [Act.put, List.setIfInBounds_toArray, List.set_cons_zero, List.set_cons_succ])
                    refine take_at (i := 7) (v := ?_) rfl (by kernel_rfl) (by kernel_rfl) (by kernel_rfl) (fun _ _ _ h => h) (Or.inl ⟨by rfl, ?_⟩) hH ?_
                    rotate_left
                    · (intro w hSw; (try dsimp only at hSw); go_simp; (try with_reducible rfl))
                    (try simp only [Act.put, List.setIfInBounds_toArray, List.set_cons_zero, List.set_cons_succ])
                    refine take_at (i := 8) (v := ?_) rfl (by kernel_rfl) (by kernel_rfl) (by kernel_rfl) (fun _ _ _ h => h) (Or.inl ⟨by rfl, ?_⟩) hH ?_
                    rotate_left
                    · (intro w hSw; (try dsimp only at hSw); go_simp; (try with_reducible rfl))
                    (try simp only [Act.put, List.setIfInBounds_toArray, List.set_cons_zero, List.set_cons_succ])
                    refine take_at (i := 9) (v := ?_) rfl (by kernel_rfl) (by kernel_rfl) (by kernel_rfl) (fun _ _ _ h => h) (Or.inl ⟨by rfl, ?_⟩) hH ?_
                    rotate_left
                    · (intro w hSw; (try dsimp only at hSw); go_simp; (try with_reducible rfl))
                    (try simp only [Act.put, List.setIfInBounds_toArray, List.set_cons_zero, List.set_cons_succ])
                    refine wpAnyH_ready (rs := [10]) (by kernel_rfl) (by simp) ?_
                    refine cons_at rfl (fun K hK => ?_) AllReadyH.nil
                    go_simp
                    go_at_call 55
                    refine (HLast.out _ hM).mono ?_
                    rintro e w6 ⟨rfl, hb⟩
                    replace hM := hM.below hb
                    replace hX := (hb.block _ (by exact lt_of_heap hX)).trans hX
                    replace hI : SetAt _ P2 _ _ _ _ _ := (hb.block _ (by exact lt_of_heap hI)).trans hI
                    replace hB := hB.trans (hb.mono hs)
                    replace hs := Nat.le_trans hs hb.size
                    clear hb
                    (try go_wp2_with fail)
                    clear hH
                    refine hK.out _ _ (by exact ⟨cell_of_row _ w1.heap.size 0 _ _ _ hX, cell_of_row _ w1.heap.size 1 _ _ _ hX, cell_of_row _ w1.heap.size 2 _ _ _ hX, cell_of_row _ w1.heap.size 3 _ _ _ hX, cell_of_row _ w1.heap.size 4 _ _ _ hX, cell_of_row _ w1.heap.size 5 _ _ _ hX, cell_of_row _ w1.heap.size 6 _ _ _ hX, cell_of_row _ w1.heap.size 7 _ _ _ hX, cell_of_row _ w1.heap.size 8 _ _ _ hX⟩) (fun hH => ?_)
                    clear hK K
                    (try simp only [Act.put, List.setIfInBounds_toArray, List.set_cons_zero, List.set_cons_succ])
                    refine take_at (i := 11) (v := ?_) rfl (by kernel_rfl) (by kernel_rfl) (by kernel_rfl) (fun _ _ _ h => h) (Or.inl ⟨by rfl, ?_⟩) hH ?_
                    rotate_left
                    · (intro w hSw; (try dsimp only at hSw); go_simp; (try with_reducible rfl))
                    (try simp only [Act.put, List.setIfInBounds_toArray, List.set_cons_zero, List.set_cons_succ])
                    refine wpAnyH_ready (rs := [12]) (by kernel_rfl) (by simp) ?_
                    refine cons_at rfl (fun K hK => ?_) AllReadyH.nil
                    go_simp
                    go_at_call 72
                    refine (HOf.out _).mono ?_
                    rintro e w7 ⟨rfl, hb⟩
                    replace hM := hM.below hb
                    replace hX := (hb.block _ (by exact lt_of_heap hX)).trans hX
                    replace hI : SetAt _ P2 _ _ _ _ _ := (hb.block _ (by exact lt_of_heap hI)).trans hI
                    replace hB := hB.trans (hb.mono hs)
                    replace hs := Nat.le_trans hs hb.size
                    clear hb
                    (try go_wp2_with fail)
                    clear hH
                    refine hK.out _ _ (by exact ⟨cell_of_row _ w1.heap.size 0 _ _ _ hX, cell_of_row _ w1.heap.size 1 _ _ _ hX, cell_of_row _ w1.heap.size 2 _ _ _ hX, cell_of_row _ w1.heap.size 3 _ _ _ hX, cell_of_row _ w1.heap.size 4 _ _ _ hX, cell_of_row _ w1.heap.size 5 _ _ _ hX, cell_of_row _ w1.heap.size 6 _ _ _ hX, cell_of_row _ w1.heap.size 7 _ _ _ hX, cell_of_row _ w1.heap.size 8 _ _ _ hX⟩) (fun hH => ?_)
                    clear hK K
                    (try simp only [Act.put, List.setIfInBounds_toArray, List.set_cons_zero, List.set_cons_succ])
                    refine take_at (i := 13) (v := ?_) rfl (by kernel_rfl) (by kernel_rfl) (by kernel_rfl) (fun _ _ _ h => h) (Or.inl ⟨by rfl, ?_⟩) hH ?_
                    rotate_left
                    · (intro w hSw; (try dsimp only at hSw); go_simp; (try with_reducible rfl))
                    (try simp only [Act.put, List.setIfInBounds_toArray, List.set_cons_zero, List.set_cons_succ])
                    refine take_at (i := 14) (v := ?_) rfl (by kernel_rfl) (by kernel_rfl) (by kernel_rfl) (fun _ _ _ h => h) (Or.inl ⟨by rfl, ?_⟩) hH ?_
                    rotate_left
                    · (intro w hSw; (try dsimp only at hSw); go_simp; (try with_reducible rfl))
                    (try simp only [Act.put, List.setIfInBounds_toArray, List.set_cons_zero, List.set_cons_succ])
                    refine take_at (i := 15) (v := ?_) rfl (by kernel_rfl) (by kernel_rfl) (by kernel_rfl) (fun _ _ _ h => h) (Or.inl ⟨by rfl, ?_⟩) hH ?_
                    rotate_left
                    · (intro w hSw; (try dsimp only at hSw); go_simp; (try with_reducible rfl))
                    (try simp only [Act.put, List.setIfInBounds_toArray, List.set_cons_zero, List.set_cons_succ])
                    refine take_at (i := 16) (v := ?_) rfl (by kernel_rfl) (by kernel_rfl) (by kernel_rfl) (fun _ _ _ h => h) (Or.inl ⟨by rfl, ?_⟩) hH ?_
                    rotate_left
                    · (intro w hSw; (try dsimp only at hSw); go_simp; (try with_reducible rfl))
                    (try simp only [Act.put, List.setIfInBounds_toArray, List.set_cons_zero, List.set_cons_succ])
                    refine take_at (i := 17) (v := ?_) rfl (by kernel_rfl) (by kernel_rfl) (by kernel_rfl) (fun _ _ _ h => h) (Or.inl ⟨by rfl, ?_⟩) hH ?_
                    rotate_left
                    · (intro w hSw; (try dsimp only at hSw); go_simp; (try with_reducible rfl))
                    (try simp only [Act.put, List.setIfInBounds_toArray, List.set_cons_zero, List.set_cons_succ])
                    refine take_at (i := 18) (v := ?_) rfl (by kernel_rfl) (by kernel_rfl) (by kernel_rfl) (fun _ _ _ h => h) (Or.inl ⟨by rfl, ?_⟩) hH ?_
                    rotate_left
                    · (intro w hSw; (try dsimp only at hSw); go_simp; (try with_reducible rfl))
                    (try simp only [Act.put, List.setIfInBounds_toArray, List.set_cons_zero, List.set_cons_succ])
                    refine wpAnyH_done (by kernel_rfl) ?_ _
                    refine NoPanic.normal ?_
                    clear hH
                    rcases hd with ⟨rfl, rfl, hQ'⟩ | ⟨rfl, rfl⟩
                    · go_wp2
                      go_roundw
                      case rel => exact ⟨k3 + 1, m6, pc2, wv2, since2, at2, _, by go_num, rfl, hQ', hM, hI, hX, hB, hs⟩
                      case measure => simp [intOf]; omega
                    · go_wp2_with fail
                      refine (SetFreed P2 pc2 wv2 since2 at2 true _ hI).mono ?_
                      rintro e w8 ⟨rfl, hw8⟩
                      obtain rfl := hw8.symm
                      clear hw8
                      go_wp2_with fail
                      refine (AdvWent_nil _).mono ?_
                      rintro e w8 ⟨rfl, hw8⟩
                      obtain rfl := hw8.symm
                      clear hw8
                      go_wp2_with fail
                      refine (SetFreed_nil _).mono ?_
                      rintro e w8 ⟨rfl, hw8⟩
                      obtain rfl := hw8.symm
                      clear hw8
                      go_wp2
                      go_ret
                      exact ⟨rfl, hB⟩
                  · skip
                    refine wp_region_noPanic ?_
                    refine wp_region_held_drew (S := (fun w' => w'.cell? ⟨w1.heap.size, 0, none⟩ = some (.int .i64 4) ∧ w'.cell? ⟨w1.heap.size, 1, none⟩ = some (.int .i64 1) ∧ w'.cell? ⟨w1.heap.size, 2, none⟩ = some (.int .i64 2) ∧ w'.cell? ⟨w1.heap.size, 3, none⟩ = some (.int .i64 30) ∧ w'.cell? ⟨w1.heap.size, 4, none⟩ = some (.int .i64 100) ∧ w'.cell? ⟨w1.heap.size, 5, none⟩ = some (.int .i64 600) ∧ w'.cell? ⟨w1.heap.size, 6, none⟩ = some (.int .i64 3) ∧ w'.cell? ⟨w1.heap.size, 7, none⟩ = some (.pointer (some ⟨g, 0, none⟩)) ∧ w'.cell? ⟨w1.heap.size, 8, none⟩ = some (.int .i64 0))) (by kernel_rfl) (by exact ⟨cell_of_row _ w1.heap.size 0 _ _ _ hX, cell_of_row _ w1.heap.size 1 _ _ _ hX, cell_of_row _ w1.heap.size 2 _ _ _ hX, cell_of_row _ w1.heap.size 3 _ _ _ hX, cell_of_row _ w1.heap.size 4 _ _ _ hX, cell_of_row _ w1.heap.size 5 _ _ _ hX, cell_of_row _ w1.heap.size 6 _ _ _ hX, cell_of_row _ w1.heap.size 7 _ _ _ hX, cell_of_row _ w1.heap.size 8 _ _ _ hX⟩) (fun hH => ?_)
                    refine take_at (i := 0) (v := ?_) rfl (by kernel_rfl) (by kernel_rfl) (by kernel_rfl) (fun _ _ _ h => h) (Or.inl ⟨by rfl, ?_⟩) hH ?_
                    rotate_left
                    · (intro w hSw; (try dsimp only at hSw); go_simp; (try with_reducible rfl))
                    (try simp only [Act.put, List.setIfInBounds_toArray, List.set_cons_zero, List.set_cons_succ])
                    refine take_at (i := 2) (v := ?_) rfl (by kernel_rfl) (by kernel_rfl) (by kernel_rfl) (fun _ _ _ h => h) (Or.inl ⟨by rfl, ?_⟩) hH ?_
                    rotate_left
                    · (intro w hSw; (try dsimp only at hSw); go_simp; (try with_reducible rfl))
                    (try simp only [Act.put, List.setIfInBounds_toArray, List.set_cons_zero, List.set_cons_succ])
                    refine take_at (i := 3) (v := ?_) rfl (by kernel_rfl) (by kernel_rfl) (by kernel_rfl) (fun _ _ _ h => h) (Or.inl ⟨by rfl, ?_⟩) hH ?_
                    rotate_left
                    · (intro w hSw; (try dsimp only at hSw); go_simp; (try with_reducible rfl))
                    (try simp only [Act.put, List.setIfInBounds_toArray, List.set_cons_zero, List.set_cons_succ])
                    refine wpAnyH_ready (rs := [1]) (by kernel_rfl) (by simp) ?_
                    refine cons_at rfl (fun K hK => ?_) AllReadyH.nil
                    go_simp
                    go_at_call 66
                    refine (HNow.out _ hM).mono ?_
                    rintro e w5 ⟨rfl, hb⟩
                    replace hM := hM.below hb
                    replace hX := (hb.block _ (by exact lt_of_heap hX)).trans hX
                    replace hI : SetAt _ P2 _ _ _ _ _ := (hb.block _ (by exact lt_of_heap hI)).trans hI
                    replace hB := hB.trans (hb.mono hs)
                    replace hs := Nat.le_trans hs hb.size
                    clear hb
                    (try go_wp2_with fail)
                    clear hH
                    refine hK.out _ _ (by exact ⟨cell_of_row _ w1.heap.size 0 _ _ _ hX, cell_of_row _ w1.heap.size 1 _ _ _ hX, cell_of_row _ w1.heap.size 2 _ _ _ hX, cell_of_row _ w1.heap.size 3 _ _ _ hX, cell_of_row _ w1.heap.size 4 _ _ _ hX, cell_of_row _ w1.heap.size 5 _ _ _ hX, cell_of_row _ w1.heap.size 6 _ _ _ hX, cell_of_row _ w1.heap.size 7 _ _ _ hX, cell_of_row _ w1.heap.size 8 _ _ _ hX⟩) (fun hH => ?_)
                    clear hK K
                    (try simp only [Act.put, List.setIfInBounds_toArray, List.set_cons_zero, List.set_cons_succ])
                    refine take_at (i := 4) (v := ?_) rfl (by kernel_rfl) (by kernel_rfl) (by kernel_rfl) (fun _ _ _ h => h) (Or.inl ⟨by rfl, ?_⟩) hH ?_
                    rotate_left
                    · (intro w hSw; (try dsimp only at hSw); go_simp; (try with_reducible rfl))
                    (try simp only [Act.put, List.setIfInBounds_toArray, List.set_cons_zero, List.set_cons_succ])
                    refine take_at (i := 5) (v := ?_) rfl (by kernel_rfl) (by kernel_rfl) (by kernel_rfl) (fun _ _ _ h => h) (Or.inl ⟨by rfl, ?_⟩) hH ?_
                    rotate_left
                    · (intro w hSw; (try dsimp only at hSw); go_simp; (try with_reducible rfl))
                    (try simp only [Act.put, List.setIfInBounds_toArray, List.set_cons_zero, List.set_cons_succ])
                    refine take_at (i := 6) (v := ?_) rfl (by kernel_rfl) (by kernel_rfl) (by kernel_rfl) (fun _ _ _ h => h) (Or.inl ⟨by rfl, ?_⟩) hH ?_
                    rotate_left
                    · (intro w hSw; (try dsimp only at hSw); go_simp; (try with_reducible rfl))
                    (try simp only [Act.put, List.setIfInBounds_toArray, List.set_cons_zero, List.set_cons_succ])
                    refine take_at (i := 7) (v := ?_) rfl (by kernel_rfl) (by kernel_rfl) (by kernel_rfl) (fun _ _ _ h => h) (Or.inl ⟨by rfl, ?_⟩) hH ?_
                    rotate_left
                    · (intro w hSw; (try dsimp only at hSw); go_simp; (try with_reducible rfl))
                    (try simp only [Act.put, List.setIfInBounds_toArray, List.set_cons_zero, List.set_cons_succ])
                    refine take_at (i := 8) (v := ?_) rfl (by kernel_rfl) (by kernel_rfl) (by kernel_rfl) (fun _ _ _ h => h) (Or.inl ⟨by rfl, ?_⟩) hH ?_
                    rotate_left
                    · (intro w hSw; (try dsimp only at hSw); go_simp; (try with_reducible rfl))
                    (try simp only [Act.put, List.setIfInBounds_toArray, List.set_cons_zero, List.set_cons_succ])
                    refine take_at (i := 9) (v := ?_) rfl (by kernel_rfl) (by kernel_rfl) (by kernel_rfl) (fun _ _ _ h => h) (Or.inl ⟨by rfl, ?_⟩) hH ?_
                    rotate_left
                    · (intro w hSw; (try dsimp only at hSw); go_simp; (try with_reducible rfl))
                    (try simp only [Act.put, List.setIfInBounds_toArray, List.set_cons_zero, List.set_cons_succ])
                    refine wpAnyH_ready (rs := [10]) (by kernel_rfl) (by simp) ?_
                    refine cons_at rfl (fun K hK => ?_) AllReadyH.nil
                    go_simp
                    go_at_call 55
                    refine (HLast.out _ hM).mono ?_
                    rintro e w6 ⟨rfl, hb⟩
                    replace hM := hM.below hb
                    replace hX := (hb.block _ (by exact lt_of_heap hX)).trans hX
                    replace hI : SetAt _ P2 _ _ _ _ _ := (hb.block _ (by exact lt_of_heap hI)).trans hI
                    replace hB := hB.trans (hb.mono hs)
                    replace hs := Nat.le_trans hs hb.size
                    clear hb
                    (try go_wp2_with fail)
                    clear hH
                    refine hK.out _ _ (by exact ⟨cell_of_row _ w1.heap.size 0 _ _ _ hX, cell_of_row _ w1.heap.size 1 _ _ _ hX, cell_of_row _ w1.heap.size 2 _ _ _ hX, cell_of_row _ w1.heap.size 3 _ _ _ hX, cell_of_row _ w1.heap.size 4 _ _ _ hX, cell_of_row _ w1.heap.size 5 _ _ _ hX, cell_of_row _ w1.heap.size 6 _ _ _ hX, cell_of_row _ w1.heap.size 7 _ _ _ hX, cell_of_row _ w1.heap.size 8 _ _ _ hX⟩) (fun hH => ?_)
                    clear hK K
                    (try simp only [Act.put, List.setIfInBounds_toArray, List.set_cons_zero, List.set_cons_succ])
                    refine take_at (i := 11) (v := ?_) rfl (by kernel_rfl) (by kernel_rfl) (by kernel_rfl) (fun _ _ _ h => h) (Or.inl ⟨by rfl, ?_⟩) hH ?_
                    rotate_left
                    · (intro w hSw; (try dsimp only at hSw); go_simp; (try with_reducible rfl))
                    (try simp only [Act.put, List.setIfInBounds_toArray, List.set_cons_zero, List.set_cons_succ])
                    refine wpAnyH_ready (rs := [12]) (by kernel_rfl) (by simp) ?_
                    refine cons_at rfl (fun K hK => ?_) AllReadyH.nil
                    go_simp
                    go_at_call 72
                    refine (HOf.out _).mono ?_
                    rintro e w7 ⟨rfl, hb⟩
                    replace hM := hM.below hb
                    replace hX := (hb.block _ (by exact lt_of_heap hX)).trans hX
                    replace hI : SetAt _ P2 _ _ _ _ _ := (hb.block _ (by exact lt_of_heap hI)).trans hI
                    replace hB := hB.trans (hb.mono hs)
                    replace hs := Nat.le_trans hs hb.size
                    clear hb
                    (try go_wp2_with fail)
                    clear hH
                    refine hK.out _ _ (by exact ⟨cell_of_row _ w1.heap.size 0 _ _ _ hX, cell_of_row _ w1.heap.size 1 _ _ _ hX, cell_of_row _ w1.heap.size 2 _ _ _ hX, cell_of_row _ w1.heap.size 3 _ _ _ hX, cell_of_row _ w1.heap.size 4 _ _ _ hX, cell_of_row _ w1.heap.size 5 _ _ _ hX, cell_of_row _ w1.heap.size 6 _ _ _ hX, cell_of_row _ w1.heap.size 7 _ _ _ hX, cell_of_row _ w1.heap.size 8 _ _ _ hX⟩) (fun hH => ?_)
                    clear hK K
                    (try simp only [Act.put, List.setIfInBounds_toArray, List.set_cons_zero, List.set_cons_succ])
                    refine take_at (i := 13) (v := ?_) rfl (by kernel_rfl) (by kernel_rfl) (by kernel_rfl) (fun _ _ _ h => h) (Or.inl ⟨by rfl, ?_⟩) hH ?_
                    rotate_left
                    · (intro w hSw; (try dsimp only at hSw); go_simp; (try with_reducible rfl))
                    (try simp only [Act.put, List.setIfInBounds_toArray, List.set_cons_zero, List.set_cons_succ])
                    refine take_at (i := 14) (v := ?_) rfl (by kernel_rfl) (by kernel_rfl) (by kernel_rfl) (fun _ _ _ h => h) (Or.inl ⟨by rfl, ?_⟩) hH ?_
                    rotate_left
                    · (intro w hSw; (try dsimp only at hSw); go_simp; (try with_reducible rfl))
                    (try simp only [Act.put, List.setIfInBounds_toArray, List.set_cons_zero, List.set_cons_succ])
                    refine take_at (i := 15) (v := undef) rfl (by kernel_rfl) (by kernel_rfl) (by kernel_rfl) (fun _ _ _ h => h) (Or.inr ⟨by rfl, rfl⟩) hH ?_
                    (try simp only [Act.put, List.setIfInBounds_toArray, List.set_cons_zero, List.set_cons_succ])
                    refine take_at (i := 16) (v := undef) rfl (by kernel_rfl) (by kernel_rfl) (by kernel_rfl) (fun _ _ _ h => h) (Or.inr ⟨by rfl, rfl⟩) hH ?_
                    (try simp only [Act.put, List.setIfInBounds_toArray, List.set_cons_zero, List.set_cons_succ])
                    refine take_at (i := 17) (v := ?_) rfl (by kernel_rfl) (by kernel_rfl) (by kernel_rfl) (fun _ _ _ h => h) (Or.inl ⟨by rfl, ?_⟩) hH ?_
                    rotate_left
                    · (intro w hSw; (try dsimp only at hSw); go_simp; (try with_reducible rfl))
                    (try simp only [Act.put, List.setIfInBounds_toArray, List.set_cons_zero, List.set_cons_succ])
                    refine take_at (i := 18) (v := ?_) rfl (by kernel_rfl) (by kernel_rfl) (by kernel_rfl) (fun _ _ _ h => h) (Or.inl ⟨by rfl, ?_⟩) hH ?_
                    rotate_left
                    · (intro w hSw; (try dsimp only at hSw); go_simp; (try with_reducible rfl))
                    (try simp only [Act.put, List.setIfInBounds_toArray, List.set_cons_zero, List.set_cons_succ])
                    refine wpAnyH_done (by kernel_rfl) ?_ _
                    refine NoPanic.normal ?_
                    clear hH
                    rcases hd with ⟨rfl, rfl, hQ'⟩ | ⟨rfl, rfl⟩
                    · go_wp2
                      go_roundw
                      case rel => exact ⟨k3 + 1, m6, pc2, wv2, since2, at2, _, by go_num, rfl, hQ', hM, hI, hX, hB, hs⟩
                      case measure => simp [intOf]; omega
                    · go_wp2_with fail
                      refine (SetFreed P2 pc2 wv2 since2 at2 true _ hI).mono ?_
                      rintro e w8 ⟨rfl, hw8⟩
                      obtain rfl := hw8.symm
                      clear hw8
                      go_wp2_with fail
                      refine (AdvWent_nil _).mono ?_
                      rintro e w8 ⟨rfl, hw8⟩
                      obtain rfl := hw8.symm
                      clear hw8
                      go_wp2_with fail
                      refine (SetFreed_nil _).mono ?_
                      rintro e w8 ⟨rfl, hw8⟩
                      obtain rfl := hw8.symm
                      clear hw8
                      go_wp2
                      go_ret
                      exact ⟨rfl, hB⟩
          · have HLast : Hid (∀ W, MemAt W g gw gh m2 → Calls Try.prog 55 #[.pointer (some ⟨g, 0, none⟩)] W fun e W' => e = .returned (.agg #[.int .i64 0, .int .i64 m2.lw, .bool true]) ∧ Below W.heap.size W W') := by
              intro W hW
              have := Last_any g gw gh m2 W hW
              rw [h, h0] at this; exact this
            clear h h0
            go_wp2_with fail
            refine (HLast.out _ hM).mono ?_
            rintro e V4 ⟨rfl, hb⟩
            replace hM := hM.below hb
            replace hX := (hb.block _ (by exact lt_of_heap hX)).trans hX
            replace hI : AdvAt _ P _ _ _ _ := (hb.block _ (by exact lt_of_heap hI)).trans hI
            replace hB := hB.trans (hb.mono hs)
            replace hs := Nat.le_trans hs hb.size
            clear hb c0 c1 c2 c3 c4 c5 c6 c7 c8
            obtain ⟨c0, c1, c2, c3, c4, c5, c6, c7, c8⟩ := env_cells hX
            go_wp2_with fail
            refine (HLast.out _ hM).mono ?_
            rintro e V5 ⟨rfl, hb⟩
            replace hM := hM.below hb
            replace hX := (hb.block _ (by exact lt_of_heap hX)).trans hX
            replace hI : AdvAt _ P _ _ _ _ := (hb.block _ (by exact lt_of_heap hI)).trans hI
            replace hB := hB.trans (hb.mono hs)
            replace hs := Nat.le_trans hs hb.size
            clear hb c0 c1 c2 c3 c4 c5 c6 c7 c8
            rcases HD.out with ⟨rfl, rfl, hA'⟩ | ⟨rfl, hE⟩
            · have HA' := Lib.hid hA'
              clear hA' HD
              go_wp2
              go_roundw
              case rel => exact ⟨k2 + 1, m2, pc', now', at', _, by go_num, rfl, HA', hM, hI, hX, hB, hs⟩
              case measure => simp [intOf]; omega
            · have HE := Lib.hid hE
              clear hE HD
              go_wp2
              as_aux_lemma =>
                have HF : Hid (m2.n = 78 ∧ m2.steps ≤ 20 ∧ m2.w 14 = 0) := ⟨HE.out.n.trans hG.out.n, by have := HE.out.hi; have := hG.out.st; omega, (HE.out.w 14 (by omega)).trans hG.out.w14⟩
                obtain ⟨u, hu, hu1, hu2⟩ : ∃ u : Int, 1 + v0 = u ∧ 1 ≤ u ∧ u ≤ 16 := ⟨_, rfl, by omega, by omega⟩
                have hwu : IntKind.i64.wrap u = u := by rw [IntWalk.i64_left]; exact IntWalk.wrap64_in _ ⟨by omega, by omega⟩
                have HPC : Hid (∀ W, Calls Try.prog 34 #[.agg #[.int .i64 3, .int .i64 0, .int .i64 u, .int .i64 0]] W fun e w' => e = .returned (.int .u64 (3 + 256 * u)) ∧ Below W.heap.size W w') := by
                  intro W
                  have h := PutChunk_any 3 0 u 0 W
                  rw [put3 u hu1 hu2] at h
                  exact h
                clear hI HE hst0 hwr HNow HLast hnx npP hbl hst
                replace hM := hM.drew
                replace hB := hB.drew
                replace hX := heapDrew hX
                replace hs := sizeDrew hs
                (first | (go_region_held3 (fun w' => w'.cell? ⟨w1.heap.size, 0, none⟩ = some (.int .i64 4) ∧ w'.cell? ⟨w1.heap.size, 1, none⟩ = some (.int .i64 1) ∧ w'.cell? ⟨w1.heap.size, 2, none⟩ = some (.int .i64 2) ∧ w'.cell? ⟨w1.heap.size, 3, none⟩ = some (.int .i64 30) ∧ w'.cell? ⟨w1.heap.size, 4, none⟩ = some (.int .i64 100) ∧ w'.cell? ⟨w1.heap.size, 5, none⟩ = some (.int .i64 600) ∧ w'.cell? ⟨w1.heap.size, 6, none⟩ = some (.int .i64 3) ∧ w'.cell? ⟨w1.heap.size, 7, none⟩ = some (.pointer (some ⟨g, 0, none⟩)) ∧ w'.cell? ⟨w1.heap.size, 8, none⟩ = some (.int .i64 0))
                  (exact ⟨cell_of_row _ w1.heap.size 0 _ _ _ hX, cell_of_row _ w1.heap.size 1 _ _ _ hX, cell_of_row _ w1.heap.size 2 _ _ _ hX, cell_of_row _ w1.heap.size 3 _ _ _ hX, cell_of_row _ w1.heap.size 4 _ _ _ hX, cell_of_row _ w1.heap.size 5 _ _ _ hX, cell_of_row _ w1.heap.size 6 _ _ _ hX, cell_of_row _ w1.heap.size 7 _ _ _ hX, cell_of_row _ w1.heap.size 8 _ _ _ hX⟩)
                  (first
                    | (go_at_call 69; refine (LC0 _).mono ?_; rintro e w5 ⟨rfl, hb⟩; replace hM := hM.below hb; replace hX := (hb.block _ (by exact lt_of_heap hX)).trans hX; replace hB := hB.trans (hb.mono hs); replace hs := Nat.le_trans hs hb.size; clear hb)
                    | (go_at_call 34; refine (HPC.out _).mono ?_; rintro e w5 ⟨rfl, hb⟩; replace hM := hM.below hb; replace hX := (hb.block _ (by exact lt_of_heap hX)).trans hX; replace hB := hB.trans (hb.mono hs); replace hs := Nat.le_trans hs hb.size; clear hb)
                    | (go_at_call 51; refine (Store_yes g gw gh m2 12 (3 + 256 * u) _ hM (by rw [HF.out.1]; omega) (by have := HF.out.2.1; omega) (by omega)).mono ?_; rintro e w5 ⟨rfl, hM5, hK⟩; replace hX := hK.heap hX np.1 np.2.1 np.2.2; replace hB := hB.trans (hK.below b0 b1 b2 hs); replace hs := Nat.le_trans hs hK.size; replace hM := hM5; clear hM5 hK))) | fail)
                have HF3 : Hid (((m2.step 12).set 12 (3 + 256 * u)).n = 78 ∧ ((m2.step 12).set 12 (3 + 256 * u)).steps ≤ 21 ∧ ((m2.step 12).set 12 (3 + 256 * u)).w 14 = 0 ∧ ((m2.step 12).set 12 (3 + 256 * u)).w 12 = 3 + 256 * u) := ⟨HF.out.1, by have := HF.out.2.1; show m2.steps + 1 ≤ 21; omega, (upd_other m2.w 12 14 (3 + 256 * u) (by omega)).trans HF.out.2.2, upd_same m2.w 12 (3 + 256 * u)⟩
                clear HF hu hwu HPC
                generalize (m2.step 12).set 12 (3 + 256 * u) = m3 at hM HF3
                have c7 := cell_of_row _ w1.heap.size 7 _ _ _ hX
                go_wp2
                clear c7
                replace hM := hM.drew
                replace hB := hB.drew
                replace hX := heapDrew hX
                replace hs := sizeDrew hs
                (first | (go_region_held3 (fun w' => w'.cell? ⟨w1.heap.size, 0, none⟩ = some (.int .i64 4) ∧ w'.cell? ⟨w1.heap.size, 1, none⟩ = some (.int .i64 1) ∧ w'.cell? ⟨w1.heap.size, 2, none⟩ = some (.int .i64 2) ∧ w'.cell? ⟨w1.heap.size, 3, none⟩ = some (.int .i64 30) ∧ w'.cell? ⟨w1.heap.size, 4, none⟩ = some (.int .i64 100) ∧ w'.cell? ⟨w1.heap.size, 5, none⟩ = some (.int .i64 600) ∧ w'.cell? ⟨w1.heap.size, 6, none⟩ = some (.int .i64 3) ∧ w'.cell? ⟨w1.heap.size, 7, none⟩ = some (.pointer (some ⟨g, 0, none⟩)) ∧ w'.cell? ⟨w1.heap.size, 8, none⟩ = some (.int .i64 0))
                  (exact ⟨cell_of_row _ w1.heap.size 0 _ _ _ hX, cell_of_row _ w1.heap.size 1 _ _ _ hX, cell_of_row _ w1.heap.size 2 _ _ _ hX, cell_of_row _ w1.heap.size 3 _ _ _ hX, cell_of_row _ w1.heap.size 4 _ _ _ hX, cell_of_row _ w1.heap.size 5 _ _ _ hX, cell_of_row _ w1.heap.size 6 _ _ _ hX, cell_of_row _ w1.heap.size 7 _ _ _ hX, cell_of_row _ w1.heap.size 8 _ _ _ hX⟩)
                  (first
                    | (go_at_call 62; refine (LEpoch_any _).mono ?_; rintro e w5 ⟨rfl, hw5⟩; obtain rfl := hw5.symm; clear hw5)
                    | (go_at_call 51; refine (Store_yes g gw gh m3 0 9 _ hM (by rw [HF3.out.1]; omega) (by have := HF3.out.2.1; omega) (by omega)).mono ?_; rintro e wS ⟨rfl, hM5, hK⟩; replace hX := hK.heap hX np.1 np.2.1 np.2.2; replace hB := hB.trans (hK.below b0 b1 b2 hs); replace hs := Nat.le_trans hs hK.size; replace hM := hM5; clear hM5 hK))) | fail)
                have HQ0 : Hid (QS u 0 ((m3.step 0).set 0 9) 0 0 0 0) := ⟨HF3.out.1, by have := HF3.out.2.1; show m3.steps + 1 ≤ _; omega, upd_same m3.w 0 9, (upd_other m3.w 0 12 9 (by omega)).trans HF3.out.2.2.2, (upd_other m3.w 0 14 9 (by omega)).trans HF3.out.2.2.1, .inl ⟨rfl, rfl, rfl, rfl, rfl⟩⟩
                clear HF3
                generalize (m3.step 0).set 0 9 = m4 at hM HQ0
                go_wp2_with fail
                refine (NewSettle_any _).mono ?_
                rintro e w5 ⟨rfl, rfl⟩
                have hI : SetAt (wS.alloc (.cells #[.int .i64 0, .int .i64 0, .int .u64 0, .int .u64 0, .int .i64 0, .bool false] 122)) wS.heap.size 0 0 0 0 false := heap_alloc_new wS _
                have hb := below_new wS (.cells #[.int .i64 0, .int .i64 0, .int .u64 0, .int .u64 0, .int .i64 0, .bool false] 122)
                have npP : wS.heap.size ≠ g ∧ wS.heap.size ≠ gw ∧ wS.heap.size ≠ gh := by have := hM.lt; have := hM.ltw; have := hM.lth; omega
                have hnx : w1.heap.size ∉ [wS.heap.size, g, gw, gh] := by have := lt_of_heap hX; simp; omega
                have hbl : ∀ k ∈ [wS.heap.size, g, gw, gh], w.heap.size ≤ k := by simp; omega
                replace hM := hM.below hb
                replace hX := (hb.block _ (by exact lt_of_heap hX)).trans hX
                replace hB := hB.trans (hb.mono hs)
                replace hs := Nat.le_trans hs hb.size
                clear hb
                generalize wS.alloc (.cells #[.int .i64 0, .int .i64 0, .int .u64 0, .int .u64 0, .int .i64 0, .bool false] 122) = U4 at hI hM hX hB hs ⊢
                generalize wS.heap.size = P2 at hI npP hnx hbl ⊢
                go_wp2_with fail
                go_loopw [13] (fun i wr => ∃ (k3 : Nat) (m5 : Ms) (pc wv since at_ : Int) (U : World), i = .int .i64 k3 ∧ U = wr ∧ Hid (QS u k3 m5 pc wv since at_) ∧ MemAt U g gw gh m5 ∧ SetAt U P2 pc wv since at_ false ∧ U.heap[w1.heap.size]? = some (.cells #[.int .i64 4, .int .i64 1, .int .i64 2, .int .i64 30, .int .i64 100, .int .i64 600, .int .i64 3, .pointer (some ⟨g, 0, none⟩), .int .i64 0] 87 (0, 0)) ∧ Below w.heap.size w U ∧ w.heap.size ≤ U.heap.size) (fun i _ => 60 - (intOf i).toNat)
                case atStart => exact ⟨0, _, 0, 0, 0, 0, _, rfl, rfl, HQ0, hM, hI, hX, hB, hs⟩
                case round =>
                  clear HQ0 hM hI hX hB hs
                  obtain ⟨k3, m5, pcs, wvs, sis, ats, V9, rfl, rfl, hQ, hM, hI, hX, hB, hs⟩ := hrel
                  have hk3 : k3 ≤ 20 := hQ.out.le ⟨hu1, hu2⟩
                  have hk3i : (k3 : Int) < 60 := by omega
                  have hst5 := hM.st0
                  have hst6 : m5.steps ≤ 100 := by have := hQ.out.st; omega
                  have hwr5 : IntKind.i64.wrap (m5.steps + 1) = m5.steps + 1 := by rw [IntWalk.i64_left]; exact IntWalk.wrap64_in _ ⟨by omega, by omega⟩
                  have HN12 : Hid (12 < m5.n) := by have := hQ.out.n; show 12 < m5.n; omega
                  go_wp2
                  replace hM := hM.drew
                  replace hB := hB.drew
                  replace hX : V9.drew.heap[w1.heap.size]? = _ := hX
                  replace hI : SetAt V9.drew P2 _ _ _ _ _ := hI
                  replace hs : w.heap.size ≤ V9.drew.heap.size := hs
                  (first | (go_region_held3 (fun w' => w'.cell? ⟨w1.heap.size, 0, none⟩ = some (.int .i64 4) ∧ w'.cell? ⟨w1.heap.size, 1, none⟩ = some (.int .i64 1) ∧ w'.cell? ⟨w1.heap.size, 2, none⟩ = some (.int .i64 2) ∧ w'.cell? ⟨w1.heap.size, 3, none⟩ = some (.int .i64 30) ∧ w'.cell? ⟨w1.heap.size, 4, none⟩ = some (.int .i64 100) ∧ w'.cell? ⟨w1.heap.size, 5, none⟩ = some (.int .i64 600) ∧ w'.cell? ⟨w1.heap.size, 6, none⟩ = some (.int .i64 3) ∧ w'.cell? ⟨w1.heap.size, 7, none⟩ = some (.pointer (some ⟨g, 0, none⟩)) ∧ w'.cell? ⟨w1.heap.size, 8, none⟩ = some (.int .i64 0))
                    (exact ⟨cell_of_row _ w1.heap.size 0 _ _ _ hX, cell_of_row _ w1.heap.size 1 _ _ _ hX, cell_of_row _ w1.heap.size 2 _ _ _ hX, cell_of_row _ w1.heap.size 3 _ _ _ hX, cell_of_row _ w1.heap.size 4 _ _ _ hX, cell_of_row _ w1.heap.size 5 _ _ _ hX, cell_of_row _ w1.heap.size 6 _ _ _ hX, cell_of_row _ w1.heap.size 7 _ _ _ hX, cell_of_row _ w1.heap.size 8 _ _ _ hX⟩)
                    (first
                      | (go_at_call 66; refine (ENow 4 1 2 30 100 600 3 0 g gw gh m5 _ hM).mono ?_; rintro e w5 ⟨rfl, hb⟩; replace hM := hM.below hb; replace hX := (hb.block _ (by exact lt_of_heap hX)).trans hX; replace hI : SetAt _ P2 _ _ _ _ _ := (hb.block _ (by exact lt_of_heap hI)).trans hI; replace hB := hB.trans (hb.mono hs); replace hs := Nat.le_trans hs hb.size; clear hb)
                      | (go_at_call 69; refine (LC0 _).mono ?_; rintro e w5 ⟨rfl, hb⟩; replace hM := hM.below hb; replace hX := (hb.block _ (by exact lt_of_heap hX)).trans hX; replace hI : SetAt _ P2 _ _ _ _ _ := (hb.block _ (by exact lt_of_heap hI)).trans hI; replace hB := hB.trans (hb.mono hs); replace hs := Nat.le_trans hs hb.size; clear hb)
                      | (go_at_call 49; refine (Peek_val g gw gh m5 12 (3 + 256 * u) _ hM HN12.out hQ.out.w12).mono ?_; rintro e w5 ⟨rfl, hw5⟩; obtain rfl := hw5.symm; clear hw5)
                      | (go_at_call 36; refine (Chunk_at (3 + 256 * u) 3 0 u 0 _ (zdec u ⟨hu1, hu2⟩)).mono ?_; rintro e w5 ⟨rfl, hb⟩; replace hM := hM.below hb; replace hX := (hb.block _ (by exact lt_of_heap hX)).trans hX; replace hI : SetAt _ P2 _ _ _ _ _ := (hb.block _ (by exact lt_of_heap hI)).trans hI; replace hB := hB.trans (hb.mono hs); replace hs := Nat.le_trans hs hb.size; clear hb))) | fail)
                  obtain ⟨d, m6, pc2, wv2, since2, at2, fr2, hst7, ⟨la, hla, hla2⟩, hd, HC⟩ := SetStep_all u ⟨hu1, hu2⟩ g gw gh P2 k3 m5 pcs wvs sis ats _ hM hI npP hQ.out
                  obtain ⟨c0, c1, c2, c3, c4, c5, c6, c7, c8⟩ := env_cells hX
                  go_wp2_with fail
                  refine HC.out.mono ?_
                  rintro e w9 ⟨rfl, hM9, hI9, hK9⟩
                  have hX9 := hK9.heap hX hnx
                  have hB9 := hB.trans (hK9.below hbl hs)
                  have hs9 := Nat.le_trans hs hK9.size
                  clear hK9 HC hM hI hX hB hs c0 c1 c2 c3 c4 c5 c6 c7 c8
                  have hM := hM9
                  have hI := hI9
                  have hX := hX9
                  have hB := hB9
                  have hs := hs9
                  clear hM9 hI9 hX9 hB9 hs9
                  have HNow : Hid (∀ W, MemAt W g gw gh m6 → Calls Try.prog 66 #[.agg #[.int .i64 4, .int .i64 1, .int .i64 2, .int .i64 30, .int .i64 100, .int .i64 600, .int .i64 3, .pointer (some ⟨g, 0, none⟩), .int .i64 0]] W fun e W' => e = .returned (.int .i64 (m5.steps + 1)) ∧ Below W.heap.size W W') := by
                    intro W h
                    have := ENow 4 1 2 30 100 600 3 0 g gw gh m6 W h
                    rw [hst7] at this; exact this
                  have HLast : Hid (∀ W, MemAt W g gw gh m6 → Calls Try.prog 55 #[.pointer (some ⟨g, 0, none⟩)] W fun e W' => e = .returned (.agg #[.int .i64 (la : Nat), .int .i64 m6.lw, .bool m6.lc]) ∧ Below W.heap.size W W') := by
                    intro W h
                    have := Last_any g gw gh m6 W h
                    rw [hla] at this; exact this
                  obtain ⟨r, hr, HOf⟩ := LOf_any la hla2
                  clear hst7 hla hla2
                  go_wp2
                  replace hM := hM.drew
                  replace hB := hB.drew
                  replace hX : w9.drew.heap[w1.heap.size]? = _ := hX
                  replace hI : SetAt w9.drew P2 _ _ _ _ _ := hI
                  replace hs : w.heap.size ≤ w9.drew.heap.size := hs
                  rcases hr with rfl | rfl
                  · skip
                    refine wp_region_noPanic ?_
                    refine wp_region_held_drew (S := (fun w' => w'.cell? ⟨w1.heap.size, 0, none⟩ = some (.int .i64 4) ∧ w'.cell? ⟨w1.heap.size, 1, none⟩ = some (.int .i64 1) ∧ w'.cell? ⟨w1.heap.size, 2, none⟩ = some (.int .i64 2) ∧ w'.cell? ⟨w1.heap.size, 3, none⟩ = some (.int .i64 30) ∧ w'.cell? ⟨w1.heap.size, 4, none⟩ = some (.int .i64 100) ∧ w'.cell? ⟨w1.heap.size, 5, none⟩ = some (.int .i64 600) ∧ w'.cell? ⟨w1.heap.size, 6, none⟩ = some (.int .i64 3) ∧ w'.cell? ⟨w1.heap.size, 7, none⟩ = some (.pointer (some ⟨g, 0, none⟩)) ∧ w'.cell? ⟨w1.heap.size, 8, none⟩ = some (.int .i64 0))) (by kernel_rfl) (by exact ⟨cell_of_row _ w1.heap.size 0 _ _ _ hX, cell_of_row _ w1.heap.size 1 _ _ _ hX, cell_of_row _ w1.heap.size 2 _ _ _ hX, cell_of_row _ w1.heap.size 3 _ _ _ hX, cell_of_row _ w1.heap.size 4 _ _ _ hX, cell_of_row _ w1.heap.size 5 _ _ _ hX, cell_of_row _ w1.heap.size 6 _ _ _ hX, cell_of_row _ w1.heap.size 7 _ _ _ hX, cell_of_row _ w1.heap.size 8 _ _ _ hX⟩) (fun hH => ?_)
                    refine take_at (i := 0) (v := ?_) rfl (by kernel_rfl) (by kernel_rfl) (by kernel_rfl) (fun _ _ _ h => h) (Or.inl ⟨by rfl, ?_⟩) hH ?_
                    rotate_left
                    · (intro w hSw; (try dsimp only at hSw); go_simp; (try with_reducible rfl))
                    (try simp only [Act.put, List.setIfInBounds_toArray, List.set_cons_zero, List.set_cons_succ])
                    refine take_at (i := 2) (v := ?_) rfl (by kernel_rfl) (by kernel_rfl) (by kernel_rfl) (fun _ _ _ h => h) (Or.inl ⟨by rfl, ?_⟩) hH ?_
                    rotate_left
                    · (intro w hSw; (try dsimp only at hSw); go_simp; (try with_reducible rfl))
                    (try simp only [Act.put, List.setIfInBounds_toArray, List.set_cons_zero, List.set_cons_succ])
                    refine take_at (i := 3) (v := ?_) rfl (by kernel_rfl) (by kernel_rfl) (by kernel_rfl) (fun _ _ _ h => h) (Or.inl ⟨by rfl, ?_⟩) hH ?_
                    rotate_left
                    · (intro w hSw; (try dsimp only at hSw); go_simp; (try with_reducible rfl))
                    (try simp only [Act.put, List.setIfInBounds_toArray, List.set_cons_zero, List.set_cons_succ])
                    refine wpAnyH_ready (rs := [1]) (by kernel_rfl) (by simp) ?_
                    refine cons_at rfl (fun K hK => ?_) AllReadyH.nil
                    go_simp
                    go_at_call 66
                    refine (HNow.out _ hM).mono ?_
                    rintro e w5 ⟨rfl, hb⟩
                    replace hM := hM.below hb
                    replace hX := (hb.block _ (by exact lt_of_heap hX)).trans hX
                    replace hI : SetAt _ P2 _ _ _ _ _ := (hb.block _ (by exact lt_of_heap hI)).trans hI
                    replace hB := hB.trans (hb.mono hs)
                    replace hs := Nat.le_trans hs hb.size
                    clear hb
                    (try go_wp2_with fail)
                    clear hH
                    refine hK.out _ _ (by exact ⟨cell_of_row _ w1.heap.size 0 _ _ _ hX, cell_of_row _ w1.heap.size 1 _ _ _ hX, cell_of_row _ w1.heap.size 2 _ _ _ hX, cell_of_row _ w1.heap.size 3 _ _ _ hX, cell_of_row _ w1.heap.size 4 _ _ _ hX, cell_of_row _ w1.heap.size 5 _ _ _ hX, cell_of_row _ w1.heap.size 6 _ _ _ hX, cell_of_row _ w1.heap.size 7 _ _ _ hX, cell_of_row _ w1.heap.size 8 _ _ _ hX⟩) (fun hH => ?_)
                    clear hK K
                    (try simp only [Act.put, List.setIfInBounds_toArray, List.set_cons_zero, List.set_cons_succ])
                    refine take_at (i := 4) (v := ?_) rfl (by kernel_rfl) (by kernel_rfl) (by kernel_rfl) (fun _ _ _ h => h) (Or.inl ⟨by rfl, ?_⟩) hH ?_
                    rotate_left
                    · (intro w hSw; (try dsimp only at hSw); go_simp; (try with_reducible rfl))
                    (try simp only [Act.put, List.setIfInBounds_toArray, List.set_cons_zero, List.set_cons_succ])
                    refine take_at (i := 5) (v := ?_) rfl (by kernel_rfl) (by kernel_rfl) (by kernel_rfl) (fun _ _ _ h => h) (Or.inl ⟨by rfl, ?_⟩) hH ?_
                    rotate_left
                    · (intro w hSw; (try dsimp only at hSw); go_simp; (try with_reducible rfl))
                    (try simp only [Act.put, List.setIfInBounds_toArray, List.set_cons_zero, List.set_cons_succ])
                    refine take_at (i := 6) (v := ?_) rfl (by kernel_rfl) (by kernel_rfl) (by kernel_rfl) (fun _ _ _ h => h) (Or.inl ⟨by rfl, ?_⟩) hH ?_
                    rotate_left
                    · (intro w hSw; (try dsimp only at hSw); go_simp; (try with_reducible rfl))
                    (try simp only [Act.put, List.setIfInBounds_toArray, List.set_cons_zero, List.set_cons_succ])
                    refine take_at (i := 7) (v := ?_) rfl (by kernel_rfl) (by kernel_rfl) (by kernel_rfl) (fun _ _ _ h => h) (Or.inl ⟨by rfl, ?_⟩) hH ?_
                    rotate_left
                    · (intro w hSw; (try dsimp only at hSw); go_simp; (try with_reducible rfl))
                    (try simp only [Act.put, List.setIfInBounds_toArray, List.set_cons_zero, List.set_cons_succ])
                    refine take_at (i := 8) (v := ?_) rfl (by kernel_rfl) (by kernel_rfl) (by kernel_rfl) (fun _ _ _ h => h) (Or.inl ⟨by rfl, ?_⟩) hH ?_
                    rotate_left
                    · (intro w hSw; (try dsimp only at hSw); go_simp; (try with_reducible rfl))
                    (try simp only [Act.put, List.setIfInBounds_toArray, List.set_cons_zero, List.set_cons_succ])
                    refine take_at (i := 9) (v := ?_) rfl (by kernel_rfl) (by kernel_rfl) (by kernel_rfl) (fun _ _ _ h => h) (Or.inl ⟨by rfl, ?_⟩) hH ?_
                    rotate_left
                    · (intro w hSw; (try dsimp only at hSw); go_simp; (try with_reducible rfl))
                    (try simp only [Act.put, List.setIfInBounds_toArray, List.set_cons_zero, List.set_cons_succ])
                    refine wpAnyH_ready (rs := [10]) (by kernel_rfl) (by simp) ?_
                    refine cons_at rfl (fun K hK => ?_) AllReadyH.nil
                    go_simp
                    go_at_call 55
                    refine (HLast.out _ hM).mono ?_
                    rintro e w6 ⟨rfl, hb⟩
                    replace hM := hM.below hb
                    replace hX := (hb.block _ (by exact lt_of_heap hX)).trans hX
                    replace hI : SetAt _ P2 _ _ _ _ _ := (hb.block _ (by exact lt_of_heap hI)).trans hI
                    replace hB := hB.trans (hb.mono hs)
                    replace hs := Nat.le_trans hs hb.size
                    clear hb
                    (try go_wp2_with fail)
                    clear hH
                    refine hK.out _ _ (by exact ⟨cell_of_row _ w1.heap.size 0 _ _ _ hX, cell_of_row _ w1.heap.size 1 _ _ _ hX, cell_of_row _ w1.heap.size 2 _ _ _ hX, cell_of_row _ w1.heap.size 3 _ _ _ hX, cell_of_row _ w1.heap.size 4 _ _ _ hX, cell_of_row _ w1.heap.size 5 _ _ _ hX, cell_of_row _ w1.heap.size 6 _ _ _ hX, cell_of_row _ w1.heap.size 7 _ _ _ hX, cell_of_row _ w1.heap.size 8 _ _ _ hX⟩) (fun hH => ?_)
                    clear hK K
                    (try simp only [Act.put, List.setIfInBounds_toArray, List.set_cons_zero, List.set_cons_succ])
                    refine take_at (i := 11) (v := ?_) rfl (by kernel_rfl) (by kernel_rfl) (by kernel_rfl) (fun _ _ _ h => h) (Or.inl ⟨by rfl, ?_⟩) hH ?_
                    rotate_left
                    · (intro w hSw; (try dsimp only at hSw); go_simp; (try with_reducible rfl))
                    (try simp only [Act.put, List.setIfInBounds_toArray, List.set_cons_zero, List.set_cons_succ])
                    refine wpAnyH_ready (rs := [12]) (by kernel_rfl) (by simp) ?_
                    refine cons_at rfl (fun K hK => ?_) AllReadyH.nil
                    go_simp
                    go_at_call 72
                    refine (HOf.out _).mono ?_
                    rintro e w7 ⟨rfl, hb⟩
                    replace hM := hM.below hb
                    replace hX := (hb.block _ (by exact lt_of_heap hX)).trans hX
                    replace hI : SetAt _ P2 _ _ _ _ _ := (hb.block _ (by exact lt_of_heap hI)).trans hI
                    replace hB := hB.trans (hb.mono hs)
                    replace hs := Nat.le_trans hs hb.size
                    clear hb
                    (try go_wp2_with fail)
                    clear hH
                    refine hK.out _ _ (by exact ⟨cell_of_row _ w1.heap.size 0 _ _ _ hX, cell_of_row _ w1.heap.size 1 _ _ _ hX, cell_of_row _ w1.heap.size 2 _ _ _ hX, cell_of_row _ w1.heap.size 3 _ _ _ hX, cell_of_row _ w1.heap.size 4 _ _ _ hX, cell_of_row _ w1.heap.size 5 _ _ _ hX, cell_of_row _ w1.heap.size 6 _ _ _ hX, cell_of_row _ w1.heap.size 7 _ _ _ hX, cell_of_row _ w1.heap.size 8 _ _ _ hX⟩) (fun hH => ?_)
                    clear hK K
                    (try simp only [Act.put, List.setIfInBounds_toArray, List.set_cons_zero, List.set_cons_succ])
                    refine take_at (i := 13) (v := ?_) rfl (by kernel_rfl) (by kernel_rfl) (by kernel_rfl) (fun _ _ _ h => h) (Or.inl ⟨by rfl, ?_⟩) hH ?_
                    rotate_left
                    · (intro w hSw; (try dsimp only at hSw); go_simp; (try with_reducible rfl))
                    (try simp only [Act.put, List.setIfInBounds_toArray, List.set_cons_zero, List.set_cons_succ])
                    refine take_at (i := 14) (v := ?_) rfl (by kernel_rfl) (by kernel_rfl) (by kernel_rfl) (fun _ _ _ h => h) (Or.inl ⟨by rfl, ?_⟩) hH ?_
                    rotate_left
                    · (intro w hSw; (try dsimp only at hSw); go_simp; (try with_reducible rfl))
                    (try simp only [Act.put, List.setIfInBounds_toArray, List.set_cons_zero, List.set_cons_succ])
                    refine take_at (i := 15) (v := ?_) rfl (by kernel_rfl) (by kernel_rfl) (by kernel_rfl) (fun _ _ _ h => h) (Or.inl ⟨by rfl, ?_⟩) hH ?_
                    rotate_left
                    · (intro w hSw; (try dsimp only at hSw); go_simp; (try with_reducible rfl))
                    (try simp only [Act.put, List.setIfInBounds_toArray, List.set_cons_zero, List.set_cons_succ])
                    refine take_at (i := 16) (v := ?_) rfl (by kernel_rfl) (by kernel_rfl) (by kernel_rfl) (fun _ _ _ h => h) (Or.inl ⟨by rfl, ?_⟩) hH ?_
                    rotate_left
                    · (intro w hSw; (try dsimp only at hSw); go_simp; (try with_reducible rfl))
                    (try simp only [Act.put, List.setIfInBounds_toArray, List.set_cons_zero, List.set_cons_succ])
                    refine take_at (i := 17) (v := ?_) rfl (by kernel_rfl) (by kernel_rfl) (by kernel_rfl) (fun _ _ _ h => h) (Or.inl ⟨by rfl, ?_⟩) hH ?_
                    rotate_left
                    · (intro w hSw; (try dsimp only at hSw); go_simp; (try with_reducible rfl))
                    (try simp only [Act.put, List.setIfInBounds_toArray, List.set_cons_zero, List.set_cons_succ])
                    refine take_at (i := 18) (v := ?_) rfl (by kernel_rfl) (by kernel_rfl) (by kernel_rfl) (fun _ _ _ h => h) (Or.inl ⟨by rfl, ?_⟩) hH ?_
                    rotate_left
                    · (intro w hSw; (try dsimp only at hSw); go_simp; (try with_reducible rfl))
                    (try simp only [Act.put, List.setIfInBounds_toArray, List.set_cons_zero, List.set_cons_succ])
                    refine wpAnyH_done (by kernel_rfl) ?_ _
                    refine NoPanic.normal ?_
                    clear hH
                    rcases hd with ⟨rfl, rfl, hQ'⟩ | ⟨rfl, rfl⟩
                    · go_wp2
                      go_roundw
                      case rel => exact ⟨k3 + 1, m6, pc2, wv2, since2, at2, _, by go_num, rfl, hQ', hM, hI, hX, hB, hs⟩
                      case measure => simp [intOf]; omega
                    · go_wp2_with fail
                      refine (SetFreed P2 pc2 wv2 since2 at2 true _ hI).mono ?_
                      rintro e w8 ⟨rfl, hw8⟩
                      obtain rfl := hw8.symm
                      clear hw8
                      go_wp2_with fail
                      refine (AdvWent_nil _).mono ?_
                      rintro e w8 ⟨rfl, hw8⟩
                      obtain rfl := hw8.symm
                      clear hw8
                      go_wp2_with fail
                      refine (SetFreed_nil _).mono ?_
                      rintro e w8 ⟨rfl, hw8⟩
                      obtain rfl := hw8.symm
                      clear hw8
                      go_wp2
                      go_ret
                      exact ⟨rfl, hB⟩
                  · skip
                    refine wp_region_noPanic ?_
                    refine wp_region_held_drew (S := (fun w' => w'.cell? ⟨w1.heap.size, 0, none⟩ = some (.int .i64 4) ∧ w'.cell? ⟨w1.heap.size, 1, none⟩ = some (.int .i64 1) ∧ w'.cell? ⟨w1.heap.size, 2, none⟩ = some (.int .i64 2) ∧ w'.cell? ⟨w1.heap.size, 3, none⟩ = some (.int .i64 30) ∧ w'.cell? ⟨w1.heap.size, 4, none⟩ = some (.int .i64 100) ∧ w'.cell? ⟨w1.heap.size, 5, none⟩ = some (.int .i64 600) ∧ w'.cell? ⟨w1.heap.size, 6, none⟩ = some (.int .i64 3) ∧ w'.cell? ⟨w1.heap.size, 7, none⟩ = some (.pointer (some ⟨g, 0, none⟩)) ∧ w'.cell? ⟨w1.heap.size, 8, none⟩ = some (.int .i64 0))) (by kernel_rfl) (by exact ⟨cell_of_row _ w1.heap.size 0 _ _ _ hX, cell_of_row _ w1.heap.size 1 _ _ _ hX, cell_of_row _ w1.heap.size 2 _ _ _ hX, cell_of_row _ w1.heap.size 3 _ _ _ hX, cell_of_row _ w1.heap.size 4 _ _ _ hX, cell_of_row _ w1.heap.size 5 _ _ _ hX, cell_of_row _ w1.heap.size 6 _ _ _ hX, cell_of_row _ w1.heap.size 7 _ _ _ hX, cell_of_row _ w1.heap.size 8 _ _ _ hX⟩) (fun hH => ?_)
                    refine take_at (i := 0) (v := ?_) rfl (by kernel_rfl) (by kernel_rfl) (by kernel_rfl) (fun _ _ _ h => h) (Or.inl ⟨by rfl, ?_⟩) hH ?_
                    rotate_left
                    · (intro w hSw; (try dsimp only at hSw); go_simp; (try with_reducible rfl))
                    (try simp only [Act.put, List.setIfInBounds_toArray, List.set_cons_zero, List.set_cons_succ])
                    refine take_at (i := 2) (v := ?_) rfl (by kernel_rfl) (by kernel_rfl) (by kernel_rfl) (fun _ _ _ h => h) (Or.inl ⟨by rfl, ?_⟩) hH ?_
                    rotate_left
                    · (intro w hSw; (try dsimp only at hSw); go_simp; (try with_reducible rfl))
                    (try simp only [Act.put, List.setIfInBounds_toArray, List.set_cons_zero, List.set_cons_succ])
                    refine take_at (i := 3) (v := ?_) rfl (by kernel_rfl) (by kernel_rfl) (by kernel_rfl) (fun _ _ _ h => h) (Or.inl ⟨by rfl, ?_⟩) hH ?_
                    rotate_left
                    · (intro w hSw; (try dsimp only at hSw); go_simp; (try with_reducible rfl))
                    (try simp only [Act.put, List.setIfInBounds_toArray, List.set_cons_zero, List.set_cons_succ])
                    refine wpAnyH_ready (rs := [1]) (by kernel_rfl) (by simp) ?_
                    refine cons_at rfl (fun K hK => ?_) AllReadyH.nil
                    go_simp
                    go_at_call 66
                    refine (HNow.out _ hM).mono ?_
                    rintro e w5 ⟨rfl, hb⟩
                    replace hM := hM.below hb
                    replace hX := (hb.block _ (by exact lt_of_heap hX)).trans hX
                    replace hI : SetAt _ P2 _ _ _ _ _ := (hb.block _ (by exact lt_of_heap hI)).trans hI
                    replace hB := hB.trans (hb.mono hs)
                    replace hs := Nat.le_trans hs hb.size
                    clear hb
                    (try go_wp2_with fail)
                    clear hH
                    refine hK.out _ _ (by exact ⟨cell_of_row _ w1.heap.size 0 _ _ _ hX, cell_of_row _ w1.heap.size 1 _ _ _ hX, cell_of_row _ w1.heap.size 2 _ _ _ hX, cell_of_row _ w1.heap.size 3 _ _ _ hX, cell_of_row _ w1.heap.size 4 _ _ _ hX, cell_of_row _ w1.heap.size 5 _ _ _ hX, cell_of_row _ w1.heap.size 6 _ _ _ hX, cell_of_row _ w1.heap.size 7 _ _ _ hX, cell_of_row _ w1.heap.size 8 _ _ _ hX⟩) (fun hH => ?_)
                    clear hK K
                    (try simp only [Act.put, List.setIfInBounds_toArray, List.set_cons_zero, List.set_cons_succ])
                    refine take_at (i := 4) (v := ?_) rfl (by kernel_rfl) (by kernel_rfl) (by kernel_rfl) (fun _ _ _ h => h) (Or.inl ⟨by rfl, ?_⟩) hH ?_
                    rotate_left
                    · (intro w hSw; (try dsimp only at hSw); go_simp; (try with_reducible rfl))
                    (try simp only [Act.put, List.setIfInBounds_toArray, List.set_cons_zero, List.set_cons_succ])
                    refine take_at (i := 5) (v := ?_) rfl (by kernel_rfl) (by kernel_rfl) (by kernel_rfl) (fun _ _ _ h => h) (Or.inl ⟨by rfl, ?_⟩) hH ?_
                    rotate_left
                    · (intro w hSw; (try dsimp only at hSw); go_simp; (try with_reducible rfl))
                    (try simp only [Act.put, List.setIfInBounds_toArray, List.set_cons_zero, List.set_cons_succ])
                    refine take_at (i := 6) (v := ?_) rfl (by kernel_rfl) (by kernel_rfl) (by kernel_rfl) (fun _ _ _ h => h) (Or.inl ⟨by rfl, ?_⟩) hH ?_
                    rotate_left
                    · (intro w hSw; (try dsimp only at hSw); go_simp; (try with_reducible rfl))
                    (try simp only [Act.put, List.setIfInBounds_toArray, List.set_cons_zero, List.set_cons_succ])
                    refine take_at (i := 7) (v := ?_) rfl (by kernel_rfl) (by kernel_rfl) (by kernel_rfl) (fun _ _ _ h => h) (Or.inl ⟨by rfl, ?_⟩) hH ?_
                    rotate_left
                    · (intro w hSw; (try dsimp only at hSw); go_simp; (try with_reducible rfl))
                    (try simp only [Act.put, List.setIfInBounds_toArray, List.set_cons_zero, List.set_cons_succ])
                    refine take_at (i := 8) (v := ?_) rfl (by kernel_rfl) (by kernel_rfl) (by kernel_rfl) (fun _ _ _ h => h) (Or.inl ⟨by rfl, ?_⟩) hH ?_
                    rotate_left
                    · (intro w hSw; (try dsimp only at hSw); go_simp; (try with_reducible rfl))
                    (try simp only [Act.put, List.setIfInBounds_toArray, List.set_cons_zero, List.set_cons_succ])
                    refine take_at (i := 9) (v := ?_) rfl (by kernel_rfl) (by kernel_rfl) (by kernel_rfl) (fun _ _ _ h => h) (Or.inl ⟨by rfl, ?_⟩) hH ?_
                    rotate_left
                    · (intro w hSw; (try dsimp only at hSw); go_simp; (try with_reducible rfl))
                    (try simp only [Act.put, List.setIfInBounds_toArray, List.set_cons_zero, List.set_cons_succ])
                    refine wpAnyH_ready (rs := [10]) (by kernel_rfl) (by simp) ?_
                    refine cons_at rfl (fun K hK => ?_) AllReadyH.nil
                    go_simp
                    go_at_call 55
                    refine (HLast.out _ hM).mono ?_
                    rintro e w6 ⟨rfl, hb⟩
                    replace hM := hM.below hb
                    replace hX := (hb.block _ (by exact lt_of_heap hX)).trans hX
                    replace hI : SetAt _ P2 _ _ _ _ _ := (hb.block _ (by exact lt_of_heap hI)).trans hI
                    replace hB := hB.trans (hb.mono hs)
                    replace hs := Nat.le_trans hs hb.size
                    clear hb
                    (try go_wp2_with fail)
                    clear hH
                    refine hK.out _ _ (by exact ⟨cell_of_row _ w1.heap.size 0 _ _ _ hX, cell_of_row _ w1.heap.size 1 _ _ _ hX, cell_of_row _ w1.heap.size 2 _ _ _ hX, cell_of_row _ w1.heap.size 3 _ _ _ hX, cell_of_row _ w1.heap.size 4 _ _ _ hX, cell_of_row _ w1.heap.size 5 _ _ _ hX, cell_of_row _ w1.heap.size 6 _ _ _ hX, cell_of_row _ w1.heap.size 7 _ _ _ hX, cell_of_row _ w1.heap.size 8 _ _ _ hX⟩) (fun hH => ?_)
                    clear hK K
                    (try simp only [Act.put, List.setIfInBounds_toArray, List.set_cons_zero, List.set_cons_succ])
                    refine take_at (i := 11) (v := ?_) rfl (by kernel_rfl) (by kernel_rfl) (by kernel_rfl) (fun _ _ _ h => h) (Or.inl ⟨by rfl, ?_⟩) hH ?_
                    rotate_left
                    · (intro w hSw; (try dsimp only at hSw); go_simp; (try with_reducible rfl))
                    (try simp only [Act.put, List.setIfInBounds_toArray, List.set_cons_zero, List.set_cons_succ])
                    refine wpAnyH_ready (rs := [12]) (by kernel_rfl) (by simp) ?_
                    refine cons_at rfl (fun K hK => ?_) AllReadyH.nil
                    go_simp
                    go_at_call 72
                    refine (HOf.out _).mono ?_
                    rintro e w7 ⟨rfl, hb⟩
                    replace hM := hM.below hb
                    replace hX := (hb.block _ (by exact lt_of_heap hX)).trans hX
                    replace hI : SetAt _ P2 _ _ _ _ _ := (hb.block _ (by exact lt_of_heap hI)).trans hI
                    replace hB := hB.trans (hb.mono hs)
                    replace hs := Nat.le_trans hs hb.size
                    clear hb
                    (try go_wp2_with fail)
                    clear hH
                    refine hK.out _ _ (by exact ⟨cell_of_row _ w1.heap.size 0 _ _ _ hX, cell_of_row _ w1.heap.size 1 _ _ _ hX, cell_of_row _ w1.heap.size 2 _ _ _ hX, cell_of_row _ w1.heap.size 3 _ _ _ hX, cell_of_row _ w1.heap.size 4 _ _ _ hX, cell_of_row _ w1.heap.size 5 _ _ _ hX, cell_of_row _ w1.heap.size 6 _ _ _ hX, cell_of_row _ w1.heap.size 7 _ _ _ hX, cell_of_row _ w1.heap.size 8 _ _ _ hX⟩) (fun hH => ?_)
                    clear hK K
                    (try simp only [Act.put, List.setIfInBounds_toArray, List.set_cons_zero, List.set_cons_succ])
                    refine take_at (i := 13) (v := ?_) rfl (by kernel_rfl) (by kernel_rfl) (by kernel_rfl) (fun _ _ _ h => h) (Or.inl ⟨by rfl, ?_⟩) hH ?_
                    rotate_left
                    · (intro w hSw; (try dsimp only at hSw); go_simp; (try with_reducible rfl))
                    (try simp only [Act.put, List.setIfInBounds_toArray, List.set_cons_zero, List.set_cons_succ])
                    refine take_at (i := 14) (v := ?_) rfl (by kernel_rfl) (by kernel_rfl) (by kernel_rfl) (fun _ _ _ h => h) (Or.inl ⟨by rfl, ?_⟩) hH ?_
                    rotate_left
                    · (intro w hSw; (try dsimp only at hSw); go_simp; (try with_reducible rfl))
                    (try simp only [Act.put, List.setIfInBounds_toArray, List.set_cons_zero, List.set_cons_succ])
                    refine take_at (i := 15) (v := undef) rfl (by kernel_rfl) (by kernel_rfl) (by kernel_rfl) (fun _ _ _ h => h) (Or.inr ⟨by rfl, rfl⟩) hH ?_
                    (try simp only [Act.put, List.setIfInBounds_toArray, List.set_cons_zero, List.set_cons_succ])
                    refine take_at (i := 16) (v := undef) rfl (by kernel_rfl) (by kernel_rfl) (by kernel_rfl) (fun _ _ _ h => h) (Or.inr ⟨by rfl, rfl⟩) hH ?_
                    (try simp only [Act.put, List.setIfInBounds_toArray, List.set_cons_zero, List.set_cons_succ])
                    refine take_at (i := 17) (v := ?_) rfl (by kernel_rfl) (by kernel_rfl) (by kernel_rfl) (fun _ _ _ h => h) (Or.inl ⟨by rfl, ?_⟩) hH ?_
                    rotate_left
                    · (intro w hSw; (try dsimp only at hSw); go_simp; (try with_reducible rfl))
                    (try simp only [Act.put, List.setIfInBounds_toArray, List.set_cons_zero, List.set_cons_succ])
                    refine take_at (i := 18) (v := ?_) rfl (by kernel_rfl) (by kernel_rfl) (by kernel_rfl) (fun _ _ _ h => h) (Or.inl ⟨by rfl, ?_⟩) hH ?_
                    rotate_left
                    · (intro w hSw; (try dsimp only at hSw); go_simp; (try with_reducible rfl))
                    (try simp only [Act.put, List.setIfInBounds_toArray, List.set_cons_zero, List.set_cons_succ])
                    refine wpAnyH_done (by kernel_rfl) ?_ _
                    refine NoPanic.normal ?_
                    clear hH
                    rcases hd with ⟨rfl, rfl, hQ'⟩ | ⟨rfl, rfl⟩
                    · go_wp2
                      go_roundw
                      case rel => exact ⟨k3 + 1, m6, pc2, wv2, since2, at2, _, by go_num, rfl, hQ', hM, hI, hX, hB, hs⟩
                      case measure => simp [intOf]; omega
                    · go_wp2_with fail
                      refine (SetFreed P2 pc2 wv2 since2 at2 true _ hI).mono ?_
                      rintro e w8 ⟨rfl, hw8⟩
                      obtain rfl := hw8.symm
                      clear hw8
                      go_wp2_with fail
                      refine (AdvWent_nil _).mono ?_
                      rintro e w8 ⟨rfl, hw8⟩
                      obtain rfl := hw8.symm
                      clear hw8
                      go_wp2_with fail
                      refine (SetFreed_nil _).mono ?_
                      rintro e w8 ⟨rfl, hw8⟩
                      obtain rfl := hw8.symm
                      clear hw8
                      go_wp2
                      go_ret
                      exact ⟨rfl, hB⟩
end Go.Proofs.Ytnpjfdiapoghnaa
