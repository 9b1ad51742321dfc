/- Layer 5's statement PinMany: four threads, each of which pins by itself; the walk. -/
import Derived.Test.YtnpjfdiapoghnaaPinO
import Derived.Test.YtnpjfdiapoghnaaLaw5b
import Derived.Test.YtnpjfdiapoghnaaBits
namespace Go.Proofs.Ytnpjfdiapoghnaa
open Go Go.RowKit

theorem Peek_hid {g gw gh : Nat} {m : Ms} {W : World} (hM : MemAt W g gw gh m) (k : Nat) (v a : Int) (ha : a = (k : Nat)) (h1 : k < m.n) (he : m.w k = v) :
    Hid (∀ q : Nat, Calls Try.prog 49 #[.pointer (some ⟨g, 0, none⟩), .int .i64 a] (W.drewN q) fun e w' => e = .returned (.int .u64 v) ∧ w' = W.drewN q) := by
  intro q
  rw [ha, ← he]
  exact Peek_yes g gw gh m k _ (hM.drewN q) h1
theorem heap_size_set (W : World) (p : Addr) (v : Value) : (W.setCell p v).heap.size = W.heap.size := by simp [World.setCell]
/-- Where the j-th of four threads is. -/
def Th (m : Ms) (j : Nat) (pc ep : Int) : Prop := (pc = 0) ∨ (pc = 1 ∧ ep = 0) ∨ (pc = 2 ∧ ep = 0 ∧ m.w (6 + j) = 1)
/-- The four threads and what is done, in two blocks. -/
structure Four (cs ds : Array Value) (m : Ms) : Prop where
  cz : cs.size = 8
  dz : ds.size = 4
  th : ∀ j, j < 4 → ∃ (pc ep : Int), cs[j * 2]? = some (.int .i64 pc) ∧ cs[j * 2 + 1]? = some (.int .u64 ep) ∧ Th m j pc ep
  dn : ∀ j, j < 4 → ∃ d : Bool, ds[j]? = some (.bool d) ∧ (d = true → m.w (6 + j) = 1)
/-- What holds of the memory. -/
structure PM (k : Nat) (m : Ms) : Prop where
  n : m.n = 32
  st : m.steps ≤ 4 + k
  w0 : m.w 0 = 0
theorem PM.mono {k k' : Nat} {m : Ms} (h : PM k m) (hk : k ≤ k') : PM k' m := ⟨h.n, by have := h.st; omega, h.w0⟩
theorem Th.le {m : Ms} {j : Nat} {pc ep : Int} (h : Th m j pc ep) : pc ≤ 2 := by rcases h with h | h | h <;> omega
theorem Th.ge {m : Ms} {j : Nat} {pc ep : Int} (h : Th m j pc ep) : 0 ≤ pc := by rcases h with h | h | h <;> omega
theorem Four.start (m : Ms) : Four #[.int .i64 0, .int .u64 0, .int .i64 0, .int .u64 0, .int .i64 0, .int .u64 0, .int .i64 0, .int .u64 0] #[.bool false, .bool false, .bool false, .bool false] m := by
  refine ⟨rfl, rfl, fun j hj => ⟨0, 0, ?_, ?_, .inl rfl⟩, fun j hj => ⟨false, ?_, fun h => (by cases h)⟩⟩
  all_goals
    obtain rfl | rfl | rfl | rfl : j = 0 ∨ j = 1 ∨ j = 2 ∨ j = 3 := by omega
    all_goals rfl

/-- A thread's step. -/
theorem PinO_all (g gw gh p j : Nat) (cs : Array Value) (t : TypeId) (m : Ms) (pc ep : Int) (k : Nat) (W : World) (hM : MemAt W g gw gh m) (hH : W.heap[p]? = some (.cells cs t (0, 0))) (q0 : cs[j * 2]? = some (.int .i64 pc)) (q1 : cs[j * 2 + 1]? = some (.int .u64 ep)) (hT : Th m j pc ep) (hP : PM k m) (hk : k ≤ 100) (np : p ≠ g ∧ p ≠ gw ∧ p ≠ gh) (hj : j < 4) :
    ∃ (d : Bool) (m' : Ms) (pc' ep' : Int), PM (k + 1) m' ∧ Th m' j pc' ep' ∧ (d = true → m'.w (6 + j) = 1) ∧ (∀ i, i ≠ j → m'.w (6 + i) = m.w (6 + i)) ∧ (∀ (i : Nat), m.w (6 + i) = 1 → m'.w (6 + i) = 1) ∧ (d = false → pc' = pc + 1) ∧
      Hid (Calls Try.prog 60 #[.pointer (some ⟨p, j * 2, none⟩), .agg #[.int .i64 4, .int .i64 1, .int .i64 1, .int .i64 17, .int .i64 1, .int .i64 0, .int .i64 1, .pointer (some ⟨g, 0, none⟩), .int .i64 (j : Nat)]] W fun e W' => e = .returned (.bool d) ∧ MemAt W' g gw gh m' ∧ (∃ cs', W'.heap[p]? = some (.cells cs' t (0, 0)) ∧ cs'[j * 2]? = some (.int .i64 pc') ∧ cs'[j * 2 + 1]? = some (.int .u64 ep') ∧ Same2 (j * 2) cs cs') ∧ KeepL [p, g, gw, gh] W W') := by
  have hst : m.steps < 4611686018427387904 := by have := hP.st; omega
  have hn := hP.n
  have h0 := hP.w0
  rcases hT with rfl | ⟨rfl, rfl⟩ | ⟨rfl, rfl, hw⟩
  · have hC := PinO0 4 1 1 17 1 0 1 j g gw gh p (j * 2) cs t m ep W hM ⟨hH, q0, q1⟩ np (by omega) hst
    rw [h0] at hC
    refine ⟨false, m.ld j 0, 1, 0, ⟨hn, by have := hP.st; show m.steps + 1 ≤ _; omega, h0⟩, .inr (.inl ⟨rfl, rfl⟩), fun h => (by cases h), fun _ _ => rfl, fun _ h => h, fun _ => rfl, ?_⟩
    exact hC.mono fun e W' ⟨r0, r1, ⟨cs', ⟨a, b, c⟩, s⟩, k⟩ => ⟨r0, r1, ⟨cs', a, b, c, s⟩, k⟩
  · have hC := PinO1 4 1 1 17 1 0 1 j g gw gh p (j * 2) cs t m 0 W hM 1 ⟨hH, q0, q1⟩ (by decide) np j rfl (by omega) (by omega) hst
    refine ⟨false, m.st j (6 + j) 1, 2, 0, ⟨hn, by have := hP.st; show m.steps + 1 ≤ _; omega, (if_neg (by omega) : upd m.w (6 + j) 1 0 = m.w 0).trans h0⟩, .inr (.inr ⟨rfl, rfl, (if_pos rfl : upd m.w (6 + j) 1 (6 + j) = 1)⟩), fun h => (by cases h), fun i hi => (if_neg (by omega) : upd m.w (6 + j) 1 (6 + i) = m.w (6 + i)), fun i hi => ?_, fun _ => rfl, ?_⟩
    · by_cases e : i = j
      · subst e; exact (if_pos rfl : upd m.w (6 + i) 1 (6 + i) = 1)
      · exact (if_neg (by omega) : upd m.w (6 + j) 1 (6 + i) = m.w (6 + i)).trans hi
    · exact hC.mono fun e W' ⟨r0, r1, ⟨cs', ⟨a, b, c⟩, s⟩, k⟩ => ⟨r0, r1, ⟨cs', a, b, c, s⟩, k⟩
  · have hC := PinO2_done 4 1 1 17 1 0 1 j g gw gh p (j * 2) cs t m 0 W hM ⟨hH, q0, q1⟩ h0 np (by omega) hst
    refine ⟨true, m.ld j 0, 2, 0, ⟨hn, by have := hP.st; show m.steps + 1 ≤ _; omega, h0⟩, .inr (.inr ⟨rfl, rfl, hw⟩), fun _ => hw, fun _ _ => rfl, fun _ h => h, fun h => (by cases h), ?_⟩
    exact hC.mono fun e W' ⟨r0, r1, ⟨cs', ⟨a, b, c⟩, s⟩, k⟩ => ⟨r0, r1, ⟨cs', a, b, c, s⟩, k⟩
theorem Th.mono {m m' : Ms} {j : Nat} {pc ep : Int} (h : Th m j pc ep) (hw : m.w (6 + j) = 1 → m'.w (6 + j) = 1) : Th m' j pc ep := by
  rcases h with h | h | ⟨h1, h2, h3⟩
  · exact .inl h
  · exact .inr (.inl h)
  · exact .inr (.inr ⟨h1, h2, hw h3⟩)
/-- Behind a step of the j-th thread, and the store of what it came to. -/
theorem Four.next {cs cs' ds : Array Value} {m m' : Ms} {j : Nat} {pc' ep' : Int} {d : Bool} (h : Four cs ds m) (hj : j < 4) (c0 : cs'[j * 2]? = some (.int .i64 pc')) (c1 : cs'[j * 2 + 1]? = some (.int .u64 ep')) (hs : Same2 (j * 2) cs cs') (hT : Th m' j pc' ep') (hd : d = true → m'.w (6 + j) = 1) (hw : ∀ (i : Nat), m.w (6 + i) = 1 → m'.w (6 + i) = 1) :
    Four cs' (ds.setIfInBounds j (.bool d)) m' := by
  refine ⟨hs.1.trans h.cz, by simp [h.dz], fun i hi => ?_, fun i hi => ?_⟩
  · by_cases e : i = j
    · subst e; exact ⟨pc', ep', c0, c1, hT⟩
    · obtain ⟨a, b, e0, e1, hT1⟩ := h.th i hi
      exact ⟨a, b, (hs.2 _ (by omega) (by omega)).trans e0, (hs.2 _ (by omega) (by omega)).trans e1, hT1.mono (hw i)⟩
  · by_cases e : i = j
    · subst e
      exact ⟨d, by simp [h.dz, hj], hd⟩
    · obtain ⟨d0, e0, e1⟩ := h.dn i hi
      exact ⟨d0, by simp [Ne.symm e, e0], fun hh => hw i (e1 hh)⟩

theorem env5_cells {W : World} {b : Nat} {th sl ch wo ge sp tr who : Int} {g : Nat} (hX : W.heap[b]? = some (.cells #[.int .i64 th, .int .i64 sl, .int .i64 ch, .int .i64 wo, .int .i64 ge, .int .i64 sp, .int .i64 tr, .pointer (some ⟨g, 0, none⟩), .int .i64 who] 87 (0, 0))) :
    W.cell? ⟨b, 0, none⟩ = some (.int .i64 th) ∧ W.cell? ⟨b, 1, none⟩ = some (.int .i64 sl) ∧ W.cell? ⟨b, 2, none⟩ = some (.int .i64 ch) ∧ W.cell? ⟨b, 3, none⟩ = some (.int .i64 wo) ∧ W.cell? ⟨b, 4, none⟩ = some (.int .i64 ge) ∧ W.cell? ⟨b, 5, none⟩ = some (.int .i64 sp) ∧ W.cell? ⟨b, 6, none⟩ = some (.int .i64 tr) ∧ W.cell? ⟨b, 7, none⟩ = some (.pointer (some ⟨g, 0, none⟩)) ∧ W.cell? ⟨b, 8, none⟩ = some (.int .i64 who) :=
  ⟨cell_of_row _ b 0 _ _ _ hX, cell_of_row _ b 1 _ _ _ hX, cell_of_row _ b 2 _ _ _ hX, cell_of_row _ b 3 _ _ _ hX, cell_of_row _ b 4 _ _ _ hX, cell_of_row _ b 5 _ _ _ hX, cell_of_row _ b 6 _ _ _ hX, cell_of_row _ b 7 _ _ _ hX, cell_of_row _ b 8 _ _ _ hX⟩
set_option maxHeartbeats 4000000 in
set_option maxRecDepth 100000 in
theorem PinMany_any (A : Option Addr) (n c : Nat) (l : Nat → Int) (w : World) (hl : Comes w .i64 A n l) :
    Calls Try.prog 17 #[.slice A n c] w fun e w' => e = .returned (.bool true) ∧ Below w.heap.size w w' := by
  have HL := Lib.hid hl
  have hn := hl.1
  clear hl
  go_enter Try.func17, Try.ntmps17
  go_wp2_with fail
  refine (arena5_any 0 _).mono ?_
  rintro e w1 ⟨g, gw, gh, rfl, hM, hb1, b0, b1, b2⟩
  go_wp2_with fail
  refine (awake5_any _).mono ?_
  rintro e w2 ⟨rfl, hb2⟩
  have hl := hM.lt
  have hlw := hM.ltw
  have hlh := hM.lth
  have hz1 := hb1.size
  have hz2 := hb2.size
  simp at hz2
  have hX0 : w2.heap[w1.heap.size]? = some (.cells #[.int .i64 4, .int .i64 1, .int .i64 1, .int .i64 17, .int .i64 1, .int .i64 0, .int .i64 1, .pointer (some ⟨g, 0, none⟩), .int .i64 0] 87 (0, 0)) := by
    rw [hb2.block _ (by simp)]; exact heap_alloc_new w1 _
  have hB0 : Below w.heap.size w w2 := (hb1.alloc hz1 _).trans (hb2.mono (by simp; omega))
  replace hM := (hM.below (below_new w1 (.cells #[.int .i64 4, .int .i64 1, .int .i64 1, .int .i64 17, .int .i64 1, .int .i64 0, .int .i64 1, .pointer (some ⟨g, 0, none⟩), .int .i64 0] 87))).below hb2
  have npx : w1.heap.size ≠ g ∧ w1.heap.size ≠ gw ∧ w1.heap.size ≠ gh := by omega
  go_wp2_with fail
  have hC : ((w2.alloc (.cells #[.int .i64 0, .int .u64 0, .int .i64 0, .int .u64 0, .int .i64 0, .int .u64 0, .int .i64 0, .int .u64 0] 92)).alloc (.cells #[.bool false, .bool false, .bool false, .bool false] 93)).heap[w2.heap.size]? = some (.cells #[.int .i64 0, .int .u64 0, .int .i64 0, .int .u64 0, .int .i64 0, .int .u64 0, .int .i64 0, .int .u64 0] 92 (0, 0)) := by
    rw [Below.heap_alloc _ _ _ (by simp)]; exact heap_alloc_new w2 _
  have hD : ((w2.alloc (.cells #[.int .i64 0, .int .u64 0, .int .i64 0, .int .u64 0, .int .i64 0, .int .u64 0, .int .i64 0, .int .u64 0] 92)).alloc (.cells #[.bool false, .bool false, .bool false, .bool false] 93)).heap[w2.heap.size + 1]? = some (.cells #[.bool false, .bool false, .bool false, .bool false] 93 (0, 0)) := by
    have h := heap_alloc_new (w2.alloc (.cells #[.int .i64 0, .int .u64 0, .int .i64 0, .int .u64 0, .int .i64 0, .int .u64 0, .int .i64 0, .int .u64 0] 92)) (.cells #[.bool false, .bool false, .bool false, .bool false] 93)
    rw [show (w2.alloc (.cells #[.int .i64 0, .int .u64 0, .int .i64 0, .int .u64 0, .int .i64 0, .int .u64 0, .int .i64 0, .int .u64 0] 92)).heap.size = w2.heap.size + 1 from by simp] at h
    exact h
  have hX : ((w2.alloc (.cells #[.int .i64 0, .int .u64 0, .int .i64 0, .int .u64 0, .int .i64 0, .int .u64 0, .int .i64 0, .int .u64 0] 92)).alloc (.cells #[.bool false, .bool false, .bool false, .bool false] 93)).heap[w1.heap.size]? = some (.cells #[.int .i64 4, .int .i64 1, .int .i64 1, .int .i64 17, .int .i64 1, .int .i64 0, .int .i64 1, .pointer (some ⟨g, 0, none⟩), .int .i64 0] 87 (0, 0)) := by
    rw [Below.heap_alloc _ _ _ (by simp; omega), Below.heap_alloc _ _ _ (by omega)]; exact hX0
  have hM1 := (hM.below (below_new w2 (.cells #[.int .i64 0, .int .u64 0, .int .i64 0, .int .u64 0, .int .i64 0, .int .u64 0, .int .i64 0, .int .u64 0] 92))).below (below_new _ (.cells #[.bool false, .bool false, .bool false, .bool false] 93))
  have hB : Below w.heap.size w ((w2.alloc (.cells #[.int .i64 0, .int .u64 0, .int .i64 0, .int .u64 0, .int .i64 0, .int .u64 0, .int .i64 0, .int .u64 0] 92)).alloc (.cells #[.bool false, .bool false, .bool false, .bool false] 93)) := (hB0.alloc (by omega) _).alloc (by simp; omega) _
  have hs : w.heap.size ≤ ((w2.alloc (.cells #[.int .i64 0, .int .u64 0, .int .i64 0, .int .u64 0, .int .i64 0, .int .u64 0, .int .i64 0, .int .u64 0] 92)).alloc (.cells #[.bool false, .bool false, .bool false, .bool false] 93)).heap.size := by simp; omega
  have npP : w2.heap.size ≠ g ∧ w2.heap.size ≠ gw ∧ w2.heap.size ≠ gh := by have := hM.lt; have := hM.ltw; have := hM.lth; omega
  have npD : w2.heap.size + 1 ≠ g ∧ w2.heap.size + 1 ≠ gw ∧ w2.heap.size + 1 ≠ gh := by have := hM.lt; have := hM.ltw; have := hM.lth; omega
  generalize (w2.alloc (.cells #[.int .i64 0, .int .u64 0, .int .i64 0, .int .u64 0, .int .i64 0, .int .u64 0, .int .i64 0, .int .u64 0] 92)).alloc (.cells #[.bool false, .bool false, .bool false, .bool false] 93) = W3 at hC hD hX hM1 hB hs ⊢
  obtain ⟨P, hP⟩ : ∃ x, x = w2.heap.size := ⟨_, rfl⟩
  have hPx : w1.heap.size < P := by omega
  have hPw : w.heap.size ≤ P := by omega
  have HF0 : Hid (Four #[.int .i64 0, .int .u64 0, .int .i64 0, .int .u64 0, .int .i64 0, .int .u64 0, .int .i64 0, .int .u64 0] #[.bool false, .bool false, .bool false, .bool false] (freshOne 4 1 17)) := Four.start _
  have HP0 : Hid (PM 0 (freshOne 4 1 17)) := ⟨rfl, by decide, by decide⟩
  rw [← hP] at hC hD npP npD ⊢
  clear hl hlw hlh hz2 hX0 hB0 hM hP hb1 hb2
  generalize freshOne 4 1 17 = m0 at hM1 HF0 HP0
  go_loopw [7, 8] (fun i _ wr => ∃ (k : Nat) (m : Ms) (who : Int) (cs ds : Array Value), i = .int .i64 k ∧ k ≤ 60 ∧ Hid (PM k m) ∧ Hid (Four cs ds m) ∧ MemAt wr g gw gh m ∧ wr.heap[P]? = some (.cells cs 92 (0, 0)) ∧ wr.heap[P + 1]? = some (.cells ds 93 (0, 0)) ∧ wr.heap[w1.heap.size]? = some (.cells #[.int .i64 4, .int .i64 1, .int .i64 1, .int .i64 17, .int .i64 1, .int .i64 0, .int .i64 1, .pointer (some ⟨g, 0, none⟩), .int .i64 who] 87 (0, 0)) ∧ Below w.heap.size w wr ∧ w.heap.size ≤ wr.heap.size) (fun i _ _ => 60 - (intOf i).toNat)
  case atStart => exact ⟨0, _, 0, _, _, rfl, by omega, HP0, HF0, hM1, hC, hD, hX, hB, hs⟩
  case round =>
    rename_i wr
    clear HP0 HF0 hM1 hC hD hX hB hs
    obtain ⟨k, m, who, cs, ds, rfl, hk60, hP, hF, hM, hC, hD, hX, hB, hs⟩ := hrel
    obtain ⟨k0, k1, k2, k3, k4, k5, k6, k7, k8⟩ := env5_cells hX
    have fx := frozen_of 8 hX
    by_cases hlt : k < 60
    · by_cases hq : k < n ∧ k < 40
      · obtain ⟨q1, q2⟩ := hq
        obtain ⟨b', off, rfl, hb, hc⟩ := HL.out.2 (by omega)
        have hcl : wr.cell? ⟨b', off + k, none⟩ = some (.int .i64 (l k)) := (hB.cell hb).trans (hc k q1)
        have hbd := andw_bd 2 (l k) 3 .i64 (.inl rfl) (by decide) (by omega)
        obtain ⟨j, ej, hj⟩ : ∃ j : Nat, bits .and .i64 (l k) 3 = (j : Int) ∧ j < 4 := ⟨(bits .and .i64 (l k) 3).toNat, by omega, by omega⟩
        clear hc hbd
        obtain ⟨pc, ep, c0, c1, hT⟩ := hF.out.th j hj
        obtain ⟨d0, e0, hd0⟩ := hF.out.dn j hj
        have hX1 : (wr.setCell ⟨w1.heap.size, 8, none⟩ (.int .i64 j)).heap[w1.heap.size]? = some (.cells #[.int .i64 4, .int .i64 1, .int .i64 1, .int .i64 17, .int .i64 1, .int .i64 0, .int .i64 1, .pointer (some ⟨g, 0, none⟩), .int .i64 (j : Nat)] 87 (0, 0)) := heap_set_self 8 _ hX
        have hM1 := hM.far (p := ⟨w1.heap.size, 8, none⟩) (.int .i64 j) (Ne.symm npx.1) (Ne.symm npx.2.1) (Ne.symm npx.2.2)
        have hC1 : (wr.setCell ⟨w1.heap.size, 8, none⟩ (.int .i64 j)).heap[P]? = some (.cells cs 92 (0, 0)) := (heap_set_far (p := ⟨w1.heap.size, 8, none⟩) _ (by show P ≠ w1.heap.size; omega)).trans hC
        have hD1 : (wr.setCell ⟨w1.heap.size, 8, none⟩ (.int .i64 j)).heap[P + 1]? = some (.cells ds 93 (0, 0)) := (heap_set_far (p := ⟨w1.heap.size, 8, none⟩) _ (by show P + 1 ≠ w1.heap.size; omega)).trans hD
        have hB1 := hB.setCell (p := ⟨w1.heap.size, 8, none⟩) hz1 (.int .i64 j)
        have hs1 : w.heap.size ≤ (wr.setCell ⟨w1.heap.size, 8, none⟩ (.int .i64 j)).heap.size := by simp [World.setCell]; omega
        have dD : wr.cell? ⟨P + 1, j, none⟩ = some (.bool d0) := (cell_of_row wr (P + 1) j _ _ _ hD).trans e0
        have hnD : P + 1 ≠ w1.heap.size := by omega
        have hj4 : (j : Int) < 4 := by omega
        cases d0
        · go_wp2
          generalize wr.setCell ⟨w1.heap.size, 8, none⟩ (.int .i64 j) = W4 at hX1 hM1 hC1 hD1 hB1 hs1 ⊢
          clear k0 k1 k2 k3 k4 k5 k6 k7 k8 fx hM hC hD hX hB hs dD
          obtain ⟨d, m', pc', ep', hP', hT', hd', _, hw', _, HC⟩ := PinO_all g gw gh P j cs 92 m pc ep k W4.drew hM1.drew hC1 c0 c1 hT hP.out (by omega) npP hj
          have hnx : w1.heap.size ∉ [P, g, gw, gh] := by simp; omega
          have hnd : P + 1 ∉ [P, g, gw, gh] := by simp; omega
          have hbl : ∀ k ∈ [P, g, gw, gh], w.heap.size ≤ k := by simp; omega
          have hHP := Lib.hid hP'
          have hHF := Lib.hid (fun cs' a1 a2 a3 => hF.out.next (cs' := cs') hj a1 a2 a3 hT' hd' hw')
          replace hX1 : W4.drew.heap[w1.heap.size]? = _ := hX1
          replace hD1 : W4.drew.heap[P + 1]? = _ := hD1
          replace hB1 := hB1.drew
          replace hs1 : w.heap.size ≤ W4.drew.heap.size := hs1
          clear hP' hd' hw' hT' hT hd0 c0 c1
          (first | (go_region_held3 (fun w' => w'.cell? ⟨w1.heap.size, 0, none⟩ = some (.int .i64 4) ∧ w'.cell? ⟨w1.heap.size, 1, none⟩ = some (.int .i64 1) ∧ w'.cell? ⟨w1.heap.size, 2, none⟩ = some (.int .i64 1) ∧ w'.cell? ⟨w1.heap.size, 3, none⟩ = some (.int .i64 17) ∧ w'.cell? ⟨w1.heap.size, 4, none⟩ = some (.int .i64 1) ∧ w'.cell? ⟨w1.heap.size, 5, none⟩ = some (.int .i64 0) ∧ w'.cell? ⟨w1.heap.size, 6, none⟩ = some (.int .i64 1) ∧ w'.cell? ⟨w1.heap.size, 7, none⟩ = some (.pointer (some ⟨g, 0, none⟩)) ∧ w'.cell? ⟨w1.heap.size, 8, none⟩ = some (.int .i64 (j : Nat)))
              (first
                | exact ⟨cell_of_row _ w1.heap.size 0 _ _ _ hX1, cell_of_row _ w1.heap.size 1 _ _ _ hX1, cell_of_row _ w1.heap.size 2 _ _ _ hX1, cell_of_row _ w1.heap.size 3 _ _ _ hX1, cell_of_row _ w1.heap.size 4 _ _ _ hX1, cell_of_row _ w1.heap.size 5 _ _ _ hX1, cell_of_row _ w1.heap.size 6 _ _ _ hX1, cell_of_row _ w1.heap.size 7 _ _ _ hX1, cell_of_row _ w1.heap.size 8 _ _ _ hX1⟩
                | exact ⟨cell_of_row _ w1.heap.size 0 _ _ _ hX9, cell_of_row _ w1.heap.size 1 _ _ _ hX9, cell_of_row _ w1.heap.size 2 _ _ _ hX9, cell_of_row _ w1.heap.size 3 _ _ _ hX9, cell_of_row _ w1.heap.size 4 _ _ _ hX9, cell_of_row _ w1.heap.size 5 _ _ _ hX9, cell_of_row _ w1.heap.size 6 _ _ _ hX9, cell_of_row _ w1.heap.size 7 _ _ _ hX9, cell_of_row _ w1.heap.size 8 _ _ _ hX9⟩
                | exact ⟨cell_of_row _ w1.heap.size 0 _ _ _ ((heap_set_far (p := ⟨P + 1, j, none⟩) _ (Ne.symm hnD)).trans hX9), cell_of_row _ w1.heap.size 1 _ _ _ ((heap_set_far (p := ⟨P + 1, j, none⟩) _ (Ne.symm hnD)).trans hX9), cell_of_row _ w1.heap.size 2 _ _ _ ((heap_set_far (p := ⟨P + 1, j, none⟩) _ (Ne.symm hnD)).trans hX9), cell_of_row _ w1.heap.size 3 _ _ _ ((heap_set_far (p := ⟨P + 1, j, none⟩) _ (Ne.symm hnD)).trans hX9), cell_of_row _ w1.heap.size 4 _ _ _ ((heap_set_far (p := ⟨P + 1, j, none⟩) _ (Ne.symm hnD)).trans hX9), cell_of_row _ w1.heap.size 5 _ _ _ ((heap_set_far (p := ⟨P + 1, j, none⟩) _ (Ne.symm hnD)).trans hX9), cell_of_row _ w1.heap.size 6 _ _ _ ((heap_set_far (p := ⟨P + 1, j, none⟩) _ (Ne.symm hnD)).trans hX9), cell_of_row _ w1.heap.size 7 _ _ _ ((heap_set_far (p := ⟨P + 1, j, none⟩) _ (Ne.symm hnD)).trans hX9), cell_of_row _ w1.heap.size 8 _ _ _ ((heap_set_far (p := ⟨P + 1, j, none⟩) _ (Ne.symm hnD)).trans hX9)⟩)
              (first | (go_at_call 60; refine HC.out.mono ?_; rintro e w9 ⟨rfl, hM9, ⟨cs', a0, a1, a2, a3⟩, hK9⟩; have hX9 := hK9.heap hX1 hnx; have hD9 := hK9.heap hD1 hnd; have dd := (cell_of_row w9 (P + 1) j _ _ _ hD9).trans e0; have fd := frozen_of j hD9))) | fail)
          all_goals
            have hB9 := hB1.trans (hK9.below hbl hs1)
            have hs9 := Nat.le_trans hs1 hK9.size
            have hs9' : w.heap.size ≤ (w9.setCell ⟨P + 1, j, none⟩ (.bool d)).heap.size := by simp [World.setCell]; omega
            clear hK9 HC
            go_wp2
            go_roundw
            case rel => exact ⟨k + 1, m', j, cs', ds.setIfInBounds j (.bool d), by go_num, by omega, hHP, hHF.out cs' a1 a2 a3, hM9.far (p := ⟨P + 1, j, none⟩) (.bool d) (Ne.symm npD.1) (Ne.symm npD.2.1) (Ne.symm npD.2.2), (heap_set_far (p := ⟨P + 1, j, none⟩) _ (by show P ≠ P + 1; omega)).trans a0, heap_set_self j _ hD9, (heap_set_far (p := ⟨P + 1, j, none⟩) _ (Ne.symm hnD)).trans hX9, hB9.setCell (p := ⟨P + 1, j, none⟩) (by show w.heap.size ≤ P + 1; omega) _, hs9'⟩
            case measure => simp [intOf]; omega
        · have hHP : Hid (PM (k + 1) m) := ⟨hP.out.n, by have := hP.out.st; omega, hP.out.w0⟩
          go_wp2
          go_roundw
          case rel => exact ⟨k + 1, m, j, cs, ds, by go_num, by omega, hHP, hF, hM1, hC1, hD1, hX1, hB1, hs1⟩
          case measure => simp [intOf]; omega
      · obtain ⟨j, er, hj⟩ : ∃ j : Nat, (k : Int) % 4 = (j : Int) ∧ j < 4 := ⟨k % 4, by omega, by omega⟩
        rcases (by omega : n ≤ k ∨ (k < n ∧ 40 ≤ k)) with q1 | ⟨q1, q2⟩
        · clear hq
          obtain ⟨pc, ep, c0, c1, hT⟩ := hF.out.th j hj
          obtain ⟨d0, e0, hd0⟩ := hF.out.dn j hj
          have hX1 : (wr.setCell ⟨w1.heap.size, 8, none⟩ (.int .i64 j)).heap[w1.heap.size]? = some (.cells #[.int .i64 4, .int .i64 1, .int .i64 1, .int .i64 17, .int .i64 1, .int .i64 0, .int .i64 1, .pointer (some ⟨g, 0, none⟩), .int .i64 (j : Nat)] 87 (0, 0)) := heap_set_self 8 _ hX
          have hM1 := hM.far (p := ⟨w1.heap.size, 8, none⟩) (.int .i64 j) (Ne.symm npx.1) (Ne.symm npx.2.1) (Ne.symm npx.2.2)
          have hC1 : (wr.setCell ⟨w1.heap.size, 8, none⟩ (.int .i64 j)).heap[P]? = some (.cells cs 92 (0, 0)) := (heap_set_far (p := ⟨w1.heap.size, 8, none⟩) _ (by show P ≠ w1.heap.size; omega)).trans hC
          have hD1 : (wr.setCell ⟨w1.heap.size, 8, none⟩ (.int .i64 j)).heap[P + 1]? = some (.cells ds 93 (0, 0)) := (heap_set_far (p := ⟨w1.heap.size, 8, none⟩) _ (by show P + 1 ≠ w1.heap.size; omega)).trans hD
          have hB1 := hB.setCell (p := ⟨w1.heap.size, 8, none⟩) hz1 (.int .i64 j)
          have hs1 : w.heap.size ≤ (wr.setCell ⟨w1.heap.size, 8, none⟩ (.int .i64 j)).heap.size := by simp [World.setCell]; omega
          have dD : wr.cell? ⟨P + 1, j, none⟩ = some (.bool d0) := (cell_of_row wr (P + 1) j _ _ _ hD).trans e0
          have hnD : P + 1 ≠ w1.heap.size := by omega
          have hj4 : (j : Int) < 4 := by omega
          cases d0
          · go_wp2
            generalize wr.setCell ⟨w1.heap.size, 8, none⟩ (.int .i64 j) = W4 at hX1 hM1 hC1 hD1 hB1 hs1 ⊢
            clear k0 k1 k2 k3 k4 k5 k6 k7 k8 fx hM hC hD hX hB hs dD
            obtain ⟨d, m', pc', ep', hP', hT', hd', _, hw', _, HC⟩ := PinO_all g gw gh P j cs 92 m pc ep k W4.drew hM1.drew hC1 c0 c1 hT hP.out (by omega) npP hj
            have hnx : w1.heap.size ∉ [P, g, gw, gh] := by simp; omega
            have hnd : P + 1 ∉ [P, g, gw, gh] := by simp; omega
            have hbl : ∀ k ∈ [P, g, gw, gh], w.heap.size ≤ k := by simp; omega
            have hHP := Lib.hid hP'
            have hHF := Lib.hid (fun cs' a1 a2 a3 => hF.out.next (cs' := cs') hj a1 a2 a3 hT' hd' hw')
            replace hX1 : W4.drew.heap[w1.heap.size]? = _ := hX1
            replace hD1 : W4.drew.heap[P + 1]? = _ := hD1
            replace hB1 := hB1.drew
            replace hs1 : w.heap.size ≤ W4.drew.heap.size := hs1
            clear hP' hd' hw' hT' hT hd0 c0 c1
            (first | (go_region_held3 (fun w' => w'.cell? ⟨w1.heap.size, 0, none⟩ = some (.int .i64 4) ∧ w'.cell? ⟨w1.heap.size, 1, none⟩ = some (.int .i64 1) ∧ w'.cell? ⟨w1.heap.size, 2, none⟩ = some (.int .i64 1) ∧ w'.cell? ⟨w1.heap.size, 3, none⟩ = some (.int .i64 17) ∧ w'.cell? ⟨w1.heap.size, 4, none⟩ = some (.int .i64 1) ∧ w'.cell? ⟨w1.heap.size, 5, none⟩ = some (.int .i64 0) ∧ w'.cell? ⟨w1.heap.size, 6, none⟩ = some (.int .i64 1) ∧ w'.cell? ⟨w1.heap.size, 7, none⟩ = some (.pointer (some ⟨g, 0, none⟩)) ∧ w'.cell? ⟨w1.heap.size, 8, none⟩ = some (.int .i64 (j : Nat)))
                (first
                  | exact ⟨cell_of_row _ w1.heap.size 0 _ _ _ hX1, cell_of_row _ w1.heap.size 1 _ _ _ hX1, cell_of_row _ w1.heap.size 2 _ _ _ hX1, cell_of_row _ w1.heap.size 3 _ _ _ hX1, cell_of_row _ w1.heap.size 4 _ _ _ hX1, cell_of_row _ w1.heap.size 5 _ _ _ hX1, cell_of_row _ w1.heap.size 6 _ _ _ hX1, cell_of_row _ w1.heap.size 7 _ _ _ hX1, cell_of_row _ w1.heap.size 8 _ _ _ hX1⟩
                  | exact ⟨cell_of_row _ w1.heap.size 0 _ _ _ hX9, cell_of_row _ w1.heap.size 1 _ _ _ hX9, cell_of_row _ w1.heap.size 2 _ _ _ hX9, cell_of_row _ w1.heap.size 3 _ _ _ hX9, cell_of_row _ w1.heap.size 4 _ _ _ hX9, cell_of_row _ w1.heap.size 5 _ _ _ hX9, cell_of_row _ w1.heap.size 6 _ _ _ hX9, cell_of_row _ w1.heap.size 7 _ _ _ hX9, cell_of_row _ w1.heap.size 8 _ _ _ hX9⟩
                  | exact ⟨cell_of_row _ w1.heap.size 0 _ _ _ ((heap_set_far (p := ⟨P + 1, j, none⟩) _ (Ne.symm hnD)).trans hX9), cell_of_row _ w1.heap.size 1 _ _ _ ((heap_set_far (p := ⟨P + 1, j, none⟩) _ (Ne.symm hnD)).trans hX9), cell_of_row _ w1.heap.size 2 _ _ _ ((heap_set_far (p := ⟨P + 1, j, none⟩) _ (Ne.symm hnD)).trans hX9), cell_of_row _ w1.heap.size 3 _ _ _ ((heap_set_far (p := ⟨P + 1, j, none⟩) _ (Ne.symm hnD)).trans hX9), cell_of_row _ w1.heap.size 4 _ _ _ ((heap_set_far (p := ⟨P + 1, j, none⟩) _ (Ne.symm hnD)).trans hX9), cell_of_row _ w1.heap.size 5 _ _ _ ((heap_set_far (p := ⟨P + 1, j, none⟩) _ (Ne.symm hnD)).trans hX9), cell_of_row _ w1.heap.size 6 _ _ _ ((heap_set_far (p := ⟨P + 1, j, none⟩) _ (Ne.symm hnD)).trans hX9), cell_of_row _ w1.heap.size 7 _ _ _ ((heap_set_far (p := ⟨P + 1, j, none⟩) _ (Ne.symm hnD)).trans hX9), cell_of_row _ w1.heap.size 8 _ _ _ ((heap_set_far (p := ⟨P + 1, j, none⟩) _ (Ne.symm hnD)).trans hX9)⟩)
                (first | (go_at_call 60; refine HC.out.mono ?_; rintro e w9 ⟨rfl, hM9, ⟨cs', a0, a1, a2, a3⟩, hK9⟩; have hX9 := hK9.heap hX1 hnx; have hD9 := hK9.heap hD1 hnd; have dd := (cell_of_row w9 (P + 1) j _ _ _ hD9).trans e0; have fd := frozen_of j hD9))) | fail)
            all_goals
              have hB9 := hB1.trans (hK9.below hbl hs1)
              have hs9 := Nat.le_trans hs1 hK9.size
              have hs9' : w.heap.size ≤ (w9.setCell ⟨P + 1, j, none⟩ (.bool d)).heap.size := by simp [World.setCell]; omega
              clear hK9 HC
              go_wp2
              go_roundw
              case rel => exact ⟨k + 1, m', j, cs', ds.setIfInBounds j (.bool d), by go_num, by omega, hHP, hHF.out cs' a1 a2 a3, hM9.far (p := ⟨P + 1, j, none⟩) (.bool d) (Ne.symm npD.1) (Ne.symm npD.2.1) (Ne.symm npD.2.2), (heap_set_far (p := ⟨P + 1, j, none⟩) _ (by show P ≠ P + 1; omega)).trans a0, heap_set_self j _ hD9, (heap_set_far (p := ⟨P + 1, j, none⟩) _ (Ne.symm hnD)).trans hX9, hB9.setCell (p := ⟨P + 1, j, none⟩) (by show w.heap.size ≤ P + 1; omega) _, hs9'⟩
              case measure => simp [intOf]; omega
          · have hHP : Hid (PM (k + 1) m) := ⟨hP.out.n, by have := hP.out.st; omega, hP.out.w0⟩
            go_wp2
            go_roundw
            case rel => exact ⟨k + 1, m, j, cs, ds, by go_num, by omega, hHP, hF, hM1, hC1, hD1, hX1, hB1, hs1⟩
            case measure => simp [intOf]; omega
        · clear hq
          obtain ⟨pc, ep, c0, c1, hT⟩ := hF.out.th j hj
          obtain ⟨d0, e0, hd0⟩ := hF.out.dn j hj
          have hX1 : (wr.setCell ⟨w1.heap.size, 8, none⟩ (.int .i64 j)).heap[w1.heap.size]? = some (.cells #[.int .i64 4, .int .i64 1, .int .i64 1, .int .i64 17, .int .i64 1, .int .i64 0, .int .i64 1, .pointer (some ⟨g, 0, none⟩), .int .i64 (j : Nat)] 87 (0, 0)) := heap_set_self 8 _ hX
          have hM1 := hM.far (p := ⟨w1.heap.size, 8, none⟩) (.int .i64 j) (Ne.symm npx.1) (Ne.symm npx.2.1) (Ne.symm npx.2.2)
          have hC1 : (wr.setCell ⟨w1.heap.size, 8, none⟩ (.int .i64 j)).heap[P]? = some (.cells cs 92 (0, 0)) := (heap_set_far (p := ⟨w1.heap.size, 8, none⟩) _ (by show P ≠ w1.heap.size; omega)).trans hC
          have hD1 : (wr.setCell ⟨w1.heap.size, 8, none⟩ (.int .i64 j)).heap[P + 1]? = some (.cells ds 93 (0, 0)) := (heap_set_far (p := ⟨w1.heap.size, 8, none⟩) _ (by show P + 1 ≠ w1.heap.size; omega)).trans hD
          have hB1 := hB.setCell (p := ⟨w1.heap.size, 8, none⟩) hz1 (.int .i64 j)
          have hs1 : w.heap.size ≤ (wr.setCell ⟨w1.heap.size, 8, none⟩ (.int .i64 j)).heap.size := by simp [World.setCell]; omega
          have dD : wr.cell? ⟨P + 1, j, none⟩ = some (.bool d0) := (cell_of_row wr (P + 1) j _ _ _ hD).trans e0
          have hnD : P + 1 ≠ w1.heap.size := by omega
          have hj4 : (j : Int) < 4 := by omega
          cases d0
          · go_wp2
            generalize wr.setCell ⟨w1.heap.size, 8, none⟩ (.int .i64 j) = W4 at hX1 hM1 hC1 hD1 hB1 hs1 ⊢
            clear k0 k1 k2 k3 k4 k5 k6 k7 k8 fx hM hC hD hX hB hs dD
            obtain ⟨d, m', pc', ep', hP', hT', hd', _, hw', _, HC⟩ := PinO_all g gw gh P j cs 92 m pc ep k W4.drew hM1.drew hC1 c0 c1 hT hP.out (by omega) npP hj
            have hnx : w1.heap.size ∉ [P, g, gw, gh] := by simp; omega
            have hnd : P + 1 ∉ [P, g, gw, gh] := by simp; omega
            have hbl : ∀ k ∈ [P, g, gw, gh], w.heap.size ≤ k := by simp; omega
            have hHP := Lib.hid hP'
            have hHF := Lib.hid (fun cs' a1 a2 a3 => hF.out.next (cs' := cs') hj a1 a2 a3 hT' hd' hw')
            replace hX1 : W4.drew.heap[w1.heap.size]? = _ := hX1
            replace hD1 : W4.drew.heap[P + 1]? = _ := hD1
            replace hB1 := hB1.drew
            replace hs1 : w.heap.size ≤ W4.drew.heap.size := hs1
            clear hP' hd' hw' hT' hT hd0 c0 c1
            (first | (go_region_held3 (fun w' => w'.cell? ⟨w1.heap.size, 0, none⟩ = some (.int .i64 4) ∧ w'.cell? ⟨w1.heap.size, 1, none⟩ = some (.int .i64 1) ∧ w'.cell? ⟨w1.heap.size, 2, none⟩ = some (.int .i64 1) ∧ w'.cell? ⟨w1.heap.size, 3, none⟩ = some (.int .i64 17) ∧ w'.cell? ⟨w1.heap.size, 4, none⟩ = some (.int .i64 1) ∧ w'.cell? ⟨w1.heap.size, 5, none⟩ = some (.int .i64 0) ∧ w'.cell? ⟨w1.heap.size, 6, none⟩ = some (.int .i64 1) ∧ w'.cell? ⟨w1.heap.size, 7, none⟩ = some (.pointer (some ⟨g, 0, none⟩)) ∧ w'.cell? ⟨w1.heap.size, 8, none⟩ = some (.int .i64 (j : Nat)))
                (first
                  | exact ⟨cell_of_row _ w1.heap.size 0 _ _ _ hX1, cell_of_row _ w1.heap.size 1 _ _ _ hX1, cell_of_row _ w1.heap.size 2 _ _ _ hX1, cell_of_row _ w1.heap.size 3 _ _ _ hX1, cell_of_row _ w1.heap.size 4 _ _ _ hX1, cell_of_row _ w1.heap.size 5 _ _ _ hX1, cell_of_row _ w1.heap.size 6 _ _ _ hX1, cell_of_row _ w1.heap.size 7 _ _ _ hX1, cell_of_row _ w1.heap.size 8 _ _ _ hX1⟩
                  | exact ⟨cell_of_row _ w1.heap.size 0 _ _ _ hX9, cell_of_row _ w1.heap.size 1 _ _ _ hX9, cell_of_row _ w1.heap.size 2 _ _ _ hX9, cell_of_row _ w1.heap.size 3 _ _ _ hX9, cell_of_row _ w1.heap.size 4 _ _ _ hX9, cell_of_row _ w1.heap.size 5 _ _ _ hX9, cell_of_row _ w1.heap.size 6 _ _ _ hX9, cell_of_row _ w1.heap.size 7 _ _ _ hX9, cell_of_row _ w1.heap.size 8 _ _ _ hX9⟩
                  | exact ⟨cell_of_row _ w1.heap.size 0 _ _ _ ((heap_set_far (p := ⟨P + 1, j, none⟩) _ (Ne.symm hnD)).trans hX9), cell_of_row _ w1.heap.size 1 _ _ _ ((heap_set_far (p := ⟨P + 1, j, none⟩) _ (Ne.symm hnD)).trans hX9), cell_of_row _ w1.heap.size 2 _ _ _ ((heap_set_far (p := ⟨P + 1, j, none⟩) _ (Ne.symm hnD)).trans hX9), cell_of_row _ w1.heap.size 3 _ _ _ ((heap_set_far (p := ⟨P + 1, j, none⟩) _ (Ne.symm hnD)).trans hX9), cell_of_row _ w1.heap.size 4 _ _ _ ((heap_set_far (p := ⟨P + 1, j, none⟩) _ (Ne.symm hnD)).trans hX9), cell_of_row _ w1.heap.size 5 _ _ _ ((heap_set_far (p := ⟨P + 1, j, none⟩) _ (Ne.symm hnD)).trans hX9), cell_of_row _ w1.heap.size 6 _ _ _ ((heap_set_far (p := ⟨P + 1, j, none⟩) _ (Ne.symm hnD)).trans hX9), cell_of_row _ w1.heap.size 7 _ _ _ ((heap_set_far (p := ⟨P + 1, j, none⟩) _ (Ne.symm hnD)).trans hX9), cell_of_row _ w1.heap.size 8 _ _ _ ((heap_set_far (p := ⟨P + 1, j, none⟩) _ (Ne.symm hnD)).trans hX9)⟩)
                (first | (go_at_call 60; refine HC.out.mono ?_; rintro e w9 ⟨rfl, hM9, ⟨cs', a0, a1, a2, a3⟩, hK9⟩; have hX9 := hK9.heap hX1 hnx; have hD9 := hK9.heap hD1 hnd; have dd := (cell_of_row w9 (P + 1) j _ _ _ hD9).trans e0; have fd := frozen_of j hD9))) | fail)
            all_goals
              have hB9 := hB1.trans (hK9.below hbl hs1)
              have hs9 := Nat.le_trans hs1 hK9.size
              have hs9' : w.heap.size ≤ (w9.setCell ⟨P + 1, j, none⟩ (.bool d)).heap.size := by simp [World.setCell]; omega
              clear hK9 HC
              go_wp2
              go_roundw
              case rel => exact ⟨k + 1, m', j, cs', ds.setIfInBounds j (.bool d), by go_num, by omega, hHP, hHF.out cs' a1 a2 a3, hM9.far (p := ⟨P + 1, j, none⟩) (.bool d) (Ne.symm npD.1) (Ne.symm npD.2.1) (Ne.symm npD.2.2), (heap_set_far (p := ⟨P + 1, j, none⟩) _ (by show P ≠ P + 1; omega)).trans a0, heap_set_self j _ hD9, (heap_set_far (p := ⟨P + 1, j, none⟩) _ (Ne.symm hnD)).trans hX9, hB9.setCell (p := ⟨P + 1, j, none⟩) (by show w.heap.size ≤ P + 1; omega) _, hs9'⟩
              case measure => simp [intOf]; omega
          · have hHP : Hid (PM (k + 1) m) := ⟨hP.out.n, by have := hP.out.st; omega, hP.out.w0⟩
            go_wp2
            go_roundw
            case rel => exact ⟨k + 1, m, j, cs, ds, by go_num, by omega, hHP, hF, hM1, hC1, hD1, hX1, hB1, hs1⟩
            case measure => simp [intOf]; omega
    · have hk : 60 ≤ k := by omega
      have HP1 : Hid (PM (60 + 5 * 0) m) := hP.out.mono (by omega)
      clear hlt hP k0 k1 k2 k3 k4 k5 k6 k7 k8 fx
      go_wp2_with fail
      go_loopw [9, 10] (fun i _ wr => ∃ (x : Nat) (m : Ms) (who : Int) (cs ds : Array Value), i = .int .i64 x ∧ x ≤ 4 ∧ Hid (PM (60 + 5 * x) m) ∧ Hid (Four cs ds m) ∧ MemAt wr g gw gh m ∧ wr.heap[P]? = some (.cells cs 92 (0, 0)) ∧ wr.heap[P + 1]? = some (.cells ds 93 (0, 0)) ∧ wr.heap[w1.heap.size]? = some (.cells #[.int .i64 4, .int .i64 1, .int .i64 1, .int .i64 17, .int .i64 1, .int .i64 0, .int .i64 1, .pointer (some ⟨g, 0, none⟩), .int .i64 who] 87 (0, 0)) ∧ Below w.heap.size w wr ∧ w.heap.size ≤ wr.heap.size) (fun i _ _ => 4 - (intOf i).toNat)
      case atStart => exact ⟨0, _, _, _, _, rfl, by omega, HP1, hF, hM, hC, hD, hX, hB, hs⟩
      case round =>
        clear HP1 hF hM hC hD hX hB hs
        obtain ⟨x, m, who, cs, ds, rfl, hx4, hP, hF, hM, hC, hD, hX, hB, hs⟩ := hrel
        by_cases hlt : x < 4
        · have hj4 : (x : Int) < 4 := by omega
          have k8 := cell_of_row _ w1.heap.size 8 _ _ _ hX
          have fx := frozen_of 8 hX
          obtain ⟨V, hV⟩ : ∃ V : World, MemAt V g gw gh m ∧ V.heap[P]? = some (.cells cs 92 (0, 0)) ∧ V.heap[P + 1]? = some (.cells ds 93 (0, 0)) ∧ V.heap[w1.heap.size]? = some (.cells #[.int .i64 4, .int .i64 1, .int .i64 1, .int .i64 17, .int .i64 1, .int .i64 0, .int .i64 1, .pointer (some ⟨g, 0, none⟩), .int .i64 who] 87 (0, 0)) ∧ Below w.heap.size w V ∧ w.heap.size ≤ V.heap.size := ⟨_, hM, hC, hD, hX, hB, hs⟩
          clear hV V
          rename_i wq wr
          have hX1 : (wr.setCell ⟨w1.heap.size, 8, none⟩ (.int .i64 (x : Nat))).heap[w1.heap.size]? = some (.cells #[.int .i64 4, .int .i64 1, .int .i64 1, .int .i64 17, .int .i64 1, .int .i64 0, .int .i64 1, .pointer (some ⟨g, 0, none⟩), .int .i64 (x : Nat)] 87 (0, 0)) := heap_set_self 8 _ hX
          have hM1 := hM.far (p := ⟨w1.heap.size, 8, none⟩) (.int .i64 (x : Nat)) (Ne.symm npx.1) (Ne.symm npx.2.1) (Ne.symm npx.2.2)
          have hC1 : (wr.setCell ⟨w1.heap.size, 8, none⟩ (.int .i64 (x : Nat))).heap[P]? = some (.cells cs 92 (0, 0)) := (heap_set_far (p := ⟨w1.heap.size, 8, none⟩) _ (by show P ≠ w1.heap.size; omega)).trans hC
          have hD1 : (wr.setCell ⟨w1.heap.size, 8, none⟩ (.int .i64 (x : Nat))).heap[P + 1]? = some (.cells ds 93 (0, 0)) := (heap_set_far (p := ⟨w1.heap.size, 8, none⟩) _ (by show P + 1 ≠ w1.heap.size; omega)).trans hD
          have hB1 := hB.setCell (p := ⟨w1.heap.size, 8, none⟩) hz1 (.int .i64 (x : Nat))
          have hs1 : w.heap.size ≤ (wr.setCell ⟨w1.heap.size, 8, none⟩ (.int .i64 (x : Nat))).heap.size := by simp [World.setCell]; omega
          obtain ⟨pc, ep, c0, c1, hT⟩ := hF.out.th x hlt
          obtain ⟨d0, e0, hd0⟩ := hF.out.dn x hlt
          have hpc : d0 = true ∨ (0 : Int) ≤ pc := .inr hT.ge
          have hE0 : ∃ (d0 : Bool) (pc ep : Int), ds[x]? = some (.bool d0) ∧ cs[x * 2]? = some (.int .i64 pc) ∧ cs[x * 2 + 1]? = some (.int .u64 ep) ∧ Hid (Th m x pc ep) ∧ (d0 = true → m.w (6 + x) = 1) ∧ (d0 = true ∨ ((0 : Nat) : Int) ≤ pc) := ⟨d0, pc, ep, e0, c0, c1, hT, hd0, hpc⟩
          have HP2 : Hid (PM (60 + 5 * x + 0) m) := hP.out
          clear hM hC hD hX hB hs hP hpc hT hd0 c0 c1 e0
          go_wp2_with fail
          clear k8 fx
          go_loopw [10] (fun i wr => ∃ (i2 : Nat) (m : Ms) (cs ds : Array Value), i = .int .i64 i2 ∧ i2 ≤ 3 ∧ Hid (PM (60 + 5 * x + i2) m) ∧ Hid (Four cs ds m) ∧ (∃ (d0 : Bool) (pc ep : Int), ds[x]? = some (.bool d0) ∧ cs[x * 2]? = some (.int .i64 pc) ∧ cs[x * 2 + 1]? = some (.int .u64 ep) ∧ Hid (Th m x pc ep) ∧ (d0 = true → m.w (6 + x) = 1) ∧ (d0 = true ∨ (i2 : Int) ≤ pc)) ∧ MemAt wr g gw gh m ∧ wr.heap[P]? = some (.cells cs 92 (0, 0)) ∧ wr.heap[P + 1]? = some (.cells ds 93 (0, 0)) ∧ wr.heap[w1.heap.size]? = some (.cells #[.int .i64 4, .int .i64 1, .int .i64 1, .int .i64 17, .int .i64 1, .int .i64 0, .int .i64 1, .pointer (some ⟨g, 0, none⟩), .int .i64 (x : Nat)] 87 (0, 0)) ∧ Below w.heap.size w wr ∧ w.heap.size ≤ wr.heap.size) (fun i _ => 5 - (intOf i).toNat)
          case atStart => exact ⟨0, _, _, _, rfl, by omega, HP2, hF, hE0, hM1, hC1, hD1, hX1, hB1, hs1⟩
          case round =>
            clear HP2 hF hE0 hM1 hC1 hD1 hX1 hB1 hs1
            obtain ⟨i2, m, cs, ds, rfl, hi3, hP, hF, ⟨d0, pc, ep, e0, c0, c1, hT, hd0, hpc⟩, hM1, hC1, hD1, hX1, hB1, hs1⟩ := hrel
            have hnD : P + 1 ≠ w1.heap.size := by omega
            have hi5 : (i2 : Int) < 5 := by omega
            have dD := (cell_of_row _ (P + 1) x _ _ _ hD1).trans e0
            cases d0
            · have hpc' : (i2 : Int) ≤ pc := by
                rcases hpc with h | h
                · cases h
                · exact h
              have hi2 : i2 ≤ 2 := by have := hT.out.le; omega
              obtain ⟨d, m', pc', ep', hP', hT', hd', _, hw', hpr, HC⟩ := PinO_all g gw gh P x cs 92 m pc ep _ _ hM1.drew hC1 c0 c1 hT.out hP.out (by omega) npP hlt
              have hnx : w1.heap.size ∉ [P, g, gw, gh] := by simp; omega
              have hnd : P + 1 ∉ [P, g, gw, gh] := by simp; omega
              have hbl : ∀ k ∈ [P, g, gw, gh], w.heap.size ≤ k := by simp; omega
              have hHP := Lib.hid hP'
              have hHF := Lib.hid (fun cs' a1 a2 a3 => hF.out.next (cs' := cs') hlt a1 a2 a3 hT' hd' hw')
              have hHT := Lib.hid hT'
              have hHD := Lib.hid hd'
              have hHR : Hid (d = true ∨ ((i2 + 1 : Nat) : Int) ≤ pc') := by
                show d = true ∨ ((i2 + 1 : Nat) : Int) ≤ pc'
                cases d
                · right; have := hpr rfl; omega
                · exact .inl rfl
              have hdz : x < ds.size := by have := hF.out.dz; omega
              go_wp2
              clear dD
              replace hB1 := hB1.drew
              clear hP' hd' hw' hT' hT hd0 c0 c1 hpr hpc hpc' hM1
              (first | (go_region_held3 (fun w' => w'.cell? ⟨w1.heap.size, 0, none⟩ = some (.int .i64 4) ∧ w'.cell? ⟨w1.heap.size, 1, none⟩ = some (.int .i64 1) ∧ w'.cell? ⟨w1.heap.size, 2, none⟩ = some (.int .i64 1) ∧ w'.cell? ⟨w1.heap.size, 3, none⟩ = some (.int .i64 17) ∧ w'.cell? ⟨w1.heap.size, 4, none⟩ = some (.int .i64 1) ∧ w'.cell? ⟨w1.heap.size, 5, none⟩ = some (.int .i64 0) ∧ w'.cell? ⟨w1.heap.size, 6, none⟩ = some (.int .i64 1) ∧ w'.cell? ⟨w1.heap.size, 7, none⟩ = some (.pointer (some ⟨g, 0, none⟩)) ∧ w'.cell? ⟨w1.heap.size, 8, none⟩ = some (.int .i64 (x : Nat)))
                  (first
                    | exact ⟨cell_of_row _ w1.heap.size 0 _ _ _ hX1, cell_of_row _ w1.heap.size 1 _ _ _ hX1, cell_of_row _ w1.heap.size 2 _ _ _ hX1, cell_of_row _ w1.heap.size 3 _ _ _ hX1, cell_of_row _ w1.heap.size 4 _ _ _ hX1, cell_of_row _ w1.heap.size 5 _ _ _ hX1, cell_of_row _ w1.heap.size 6 _ _ _ hX1, cell_of_row _ w1.heap.size 7 _ _ _ hX1, cell_of_row _ w1.heap.size 8 _ _ _ hX1⟩
                    | exact ⟨cell_of_row _ w1.heap.size 0 _ _ _ hX9, cell_of_row _ w1.heap.size 1 _ _ _ hX9, cell_of_row _ w1.heap.size 2 _ _ _ hX9, cell_of_row _ w1.heap.size 3 _ _ _ hX9, cell_of_row _ w1.heap.size 4 _ _ _ hX9, cell_of_row _ w1.heap.size 5 _ _ _ hX9, cell_of_row _ w1.heap.size 6 _ _ _ hX9, cell_of_row _ w1.heap.size 7 _ _ _ hX9, cell_of_row _ w1.heap.size 8 _ _ _ hX9⟩
                    | exact ⟨cell_of_row _ w1.heap.size 0 _ _ _ ((heap_set_far (p := ⟨P + 1, x, none⟩) _ (Ne.symm hnD)).trans hX9), cell_of_row _ w1.heap.size 1 _ _ _ ((heap_set_far (p := ⟨P + 1, x, none⟩) _ (Ne.symm hnD)).trans hX9), cell_of_row _ w1.heap.size 2 _ _ _ ((heap_set_far (p := ⟨P + 1, x, none⟩) _ (Ne.symm hnD)).trans hX9), cell_of_row _ w1.heap.size 3 _ _ _ ((heap_set_far (p := ⟨P + 1, x, none⟩) _ (Ne.symm hnD)).trans hX9), cell_of_row _ w1.heap.size 4 _ _ _ ((heap_set_far (p := ⟨P + 1, x, none⟩) _ (Ne.symm hnD)).trans hX9), cell_of_row _ w1.heap.size 5 _ _ _ ((heap_set_far (p := ⟨P + 1, x, none⟩) _ (Ne.symm hnD)).trans hX9), cell_of_row _ w1.heap.size 6 _ _ _ ((heap_set_far (p := ⟨P + 1, x, none⟩) _ (Ne.symm hnD)).trans hX9), cell_of_row _ w1.heap.size 7 _ _ _ ((heap_set_far (p := ⟨P + 1, x, none⟩) _ (Ne.symm hnD)).trans hX9), cell_of_row _ w1.heap.size 8 _ _ _ ((heap_set_far (p := ⟨P + 1, x, none⟩) _ (Ne.symm hnD)).trans hX9)⟩)
                  (first | (go_at_call 60; refine HC.out.mono ?_; rintro e w9 ⟨rfl, hM9, ⟨cs', a0, a1, a2, a3⟩, hK9⟩; have hX9 := hK9.heap hX1 hnx; have hD9 := hK9.heap hD1 hnd; have dd := (cell_of_row w9 (P + 1) x _ _ _ hD9).trans e0; have fd := frozen_of x hD9))) | fail)
              all_goals
                have hB9 := hB1.trans (hK9.below hbl hs1)
                have hs9 := Nat.le_trans hs1 hK9.size
                have hs9' : w.heap.size ≤ (w9.setCell ⟨P + 1, x, none⟩ (.bool d)).heap.size := by simp [World.setCell]; omega
                clear hK9 HC
                go_wp2
                go_roundw
                case rel => exact ⟨i2 + 1, m', cs', ds.setIfInBounds x (.bool d), by go_num, by omega, hHP, hHF.out cs' a1 a2 a3, ⟨d, pc', ep', by simp [hdz], a1, a2, hHT, hHD.out, hHR.out⟩, hM9.far (p := ⟨P + 1, x, none⟩) (.bool d) (Ne.symm npD.1) (Ne.symm npD.2.1) (Ne.symm npD.2.2), (heap_set_far (p := ⟨P + 1, x, none⟩) _ (by show P ≠ P + 1; omega)).trans a0, heap_set_self x _ hD9, (heap_set_far (p := ⟨P + 1, x, none⟩) _ (Ne.symm hnD)).trans hX9, hB9.setCell (p := ⟨P + 1, x, none⟩) (by show w.heap.size ≤ P + 1; omega) _, hs9'⟩
                case measure => simp [intOf]; omega
            · have hw6 := hd0 rfl
              have HW6 := Lib.hid hw6
              have HN6 : Hid (6 + x < m.n) := by have := hP.out.n; show 6 + x < m.n; omega
              have hHP : Hid (PM (60 + 5 * (x + 1)) m) := hP.out.mono (by omega)
              have HK6 : Hid (6 + (x : Int) = ((6 + x : Nat) : Int)) := by show 6 + (x : Int) = ((6 + x : Nat) : Int); omega
              clear hw6 hd0 hpc hT c0 c1
              have k7 := cell_of_row _ w1.heap.size 7 _ _ _ hX1
              have HPk := Peek_hid hM1 (6 + x) 1 (6 + (x : Int)) HK6.out HN6.out HW6.out
              go_wp2
              go_quiet ((first | (go_at_call 61; exact Calls.quiet_of_same (LPin_any (x : Nat) _ (by omega) (by omega))) | (go_at_call 49; exact Calls.quiet_of_same (HPk.out _))))
              go_wp2
              go_roundw
              case rel => exact ⟨x + 1, m, x, cs, ds, by go_num, by omega, hHP, hF, hM1.drewN _, hC1, hD1, hX1, below_drewN hB1 _, hs1⟩
              case measure => simp [intOf]; omega
        · have hx : 4 ≤ x := by omega
          clear hlt
          go_wp2
          go_ret
          exact ⟨rfl, hB⟩
end Go.Proofs.Ytnpjfdiapoghnaa
