/- Layer 13's statements: the arena that they use, the loop that lets the epoch go on, and that 'awake' answers true. -/
import Derived.Test.YtnpjfdiapoghnaaAdv
import Derived.Test.YtnpjfdiapoghnaaLayout2
import Derived.LoopTactic
namespace Go.Proofs.Ytnpjfdiapoghnaa
open Go Go.RowKit

/-! ### The plain law of the compactor's steps -/
theorem upd_same (f : Nat → Int) (k : Nat) (v : Int) : upd f k v k = v := if_pos rfl
theorem upd_other (f : Nat → Int) (k j : Nat) (v : Int) (h : j ≠ k) : upd f k v j = f j := if_neg h
/-- A pin that lets the epoch go on. -/
def okPin (m : Ms) (now : Int) (k : Nat) : Prop := m.w (6 + k) = 0 ∨ m.w (6 + k) = IntKind.u64.wrap (now + 1)
/-- What holds ahead of the i-th step. -/
structure AGood (th : Nat) (m0 : Ms) (i : Nat) (m : Ms) (pc now at_ : Int) : Prop where
  n : m.n = m0.n
  steps : m.steps = m0.steps + i
  w : m.w = m0.w
  st : (i = 0 ∧ pc = 0 ∧ at_ = 0) ∨ (∃ k : Nat, i = k + 1 ∧ k < th ∧ pc = 1 ∧ at_ = (k : Int) ∧ now = m0.w 0 ∧ ∀ j, j < k → okPin m0 (m0.w 0) j) ∨ (i = th + 1 ∧ pc = 2 ∧ now = m0.w 0 ∧ ∀ j, j < th → okPin m0 (m0.w 0) j)
/-- What holds at the end. -/
structure AEnd (th : Nat) (m0 m' : Ms) (b : Bool) : Prop where
  n : m'.n = m0.n
  lo : m0.steps ≤ m'.steps
  hi : m'.steps ≤ m0.steps + (th + 2 : Nat)
  w : ∀ j, j ≠ 0 → m'.w j = m0.w j
  res : (b = true ∧ (∀ j, j < th → okPin m0 (m0.w 0) j) ∧ m'.w 0 = IntKind.u64.wrap (m0.w 0 + 1)) ∨ (b = false ∧ (¬ ∀ j, j < th → okPin m0 (m0.w 0) j) ∧ m'.w 0 = m0.w 0)
theorem AGood.le {th : Nat} {m0 : Ms} {i : Nat} {m : Ms} {pc now at_ : Int} (h : AGood th m0 i m pc now at_) : i ≤ th + 1 := by
  rcases h.st with ⟨h, _⟩ | ⟨k, h, h2, _⟩ | ⟨h, _⟩ <;> omega
theorem AdvStep_all (th : Nat) (sl ch wo ge sp tr who : Int) (g gw gh p : Nat) (m0 m : Ms) (i : Nat) (pc now at_ : Int) (W : World) (hM : MemAt W g gw gh m) (hI : AdvAt W p pc now at_ false) (np : p ≠ g ∧ p ≠ gw ∧ p ≠ gh) (h8 : 1 ≤ th ∧ th ≤ 8) (hn : 6 + th ≤ m0.n) (hs : m.steps < 4611686018427387904) (hG : AGood th m0 i m pc now at_) :
    ∃ (d : Bool) (m' : Ms) (pc' now' at' : Int) (went' : Bool), Hid (Calls Try.prog 68 #[.pointer (some ⟨p, 0, none⟩), .agg #[.int .i64 (th : Nat), .int .i64 sl, .int .i64 ch, .int .i64 wo, .int .i64 ge, .int .i64 sp, .int .i64 tr, .pointer (some ⟨g, 0, none⟩), .int .i64 who]] W fun e W' => e = .returned (.bool d) ∧ MemAt W' g gw gh m' ∧ AdvAt W' p pc' now' at' went' ∧ KeepL [p, g, gw, gh] W W') ∧
      ((d = false ∧ went' = false ∧ AGood th m0 (i + 1) m' pc' now' at') ∨ (d = true ∧ AEnd th m0 m' went')) := by
  obtain ⟨gn, gs, gww, hst⟩ := hG
  rcases hst with ⟨rfl, rfl, rfl⟩ | ⟨k, rfl, hk, rfl, rfl, rfl, hok⟩ | ⟨rfl, rfl, rfl, hok⟩
  · refine ⟨_, _, _, _, _, _, AdvStep0 th sl ch wo ge sp tr who g gw gh p m now 0 W hM hI np (by omega) hs, .inl ⟨rfl, rfl, gn, ?_, gww, .inr (.inl ⟨0, rfl, by omega, rfl, rfl, by rw [gww], fun j hj => absurd hj (by omega)⟩)⟩⟩
    show m.steps + 1 = _; omega
  · have hw : m.w (6 + k) = m0.w (6 + k) := by rw [gww]
    have hlt : 6 + k < m.n := by omega
    by_cases e0 : m.w (6 + k) = 0
    · have hok' : ∀ j, j < k + 1 → okPin m0 (m0.w 0) j := fun j hj => by
        rcases Nat.lt_or_ge j k with h | h
        · exact hok j h
        · obtain rfl : j = k := by omega
          exact .inl (by rw [← hw]; exact e0)
      by_cases hl : k + 1 < th
      · refine ⟨_, _, _, _, _, _, AdvStep1_more_zero th sl ch wo ge sp tr who g gw gh p m (m0.w 0) W hM k (by omega) _ rfl hI np hlt hs (by simp [e0]) (by omega), .inl ⟨rfl, rfl, gn, ?_, gww, .inr (.inl ⟨k + 1, rfl, hl, rfl, by omega, rfl, hok'⟩)⟩⟩
        show m.steps + 1 = _; omega
      · refine ⟨_, _, _, _, _, _, AdvStep1_last_zero th sl ch wo ge sp tr who g gw gh p m (m0.w 0) W hM k (by omega) _ rfl hI np hlt hs (by simp [e0]) (by omega), .inl ⟨rfl, rfl, gn, ?_, gww, .inr (.inr ⟨by omega, rfl, rfl, fun j hj => hok' j (by omega)⟩)⟩⟩
        show m.steps + 1 = _; omega
    · by_cases e1 : m.w (6 + k) = IntKind.u64.wrap (m0.w 0 + 1)
      · have hok' : ∀ j, j < k + 1 → okPin m0 (m0.w 0) j := fun j hj => by
          rcases Nat.lt_or_ge j k with h | h
          · exact hok j h
          · obtain rfl : j = k := by omega
            exact .inr (by rw [← hw]; exact e1)
        by_cases hl : k + 1 < th
        · refine ⟨_, _, _, _, _, _, AdvStep1_more_same th sl ch wo ge sp tr who g gw gh p m (m0.w 0) W hM k (by omega) _ rfl hI np hlt hs (bne_iff_ne.2 e0) (by simp [e1]) (by omega), .inl ⟨rfl, rfl, gn, ?_, gww, .inr (.inl ⟨k + 1, rfl, hl, rfl, by omega, rfl, hok'⟩)⟩⟩
          show m.steps + 1 = _; omega
        · refine ⟨_, _, _, _, _, _, AdvStep1_last_same th sl ch wo ge sp tr who g gw gh p m (m0.w 0) W hM k (by omega) _ rfl hI np hlt hs (bne_iff_ne.2 e0) (by simp [e1]) (by omega), .inl ⟨rfl, rfl, gn, ?_, gww, .inr (.inr ⟨by omega, rfl, rfl, fun j hj => hok' j (by omega)⟩)⟩⟩
          show m.steps + 1 = _; omega
      · refine ⟨_, _, _, _, _, _, AdvStep1_stop th sl ch wo ge sp tr who g gw gh p m (m0.w 0) W hM k (by omega) _ rfl hI np hlt hs (bne_iff_ne.2 e0) (bne_iff_ne.2 e1), .inr ⟨rfl, gn, ?_, ?_, fun j _ => congrFun gww j, .inr ⟨rfl, fun h => ?_, congrFun gww 0⟩⟩⟩
        · show _ ≤ m.steps + 1; omega
        · show m.steps + 1 ≤ _; omega
        · rcases h k hk with h | h
          · exact e0 (hw.trans h)
          · exact e1 (hw.trans h)
  · refine ⟨_, _, _, _, _, _, AdvStep2 th sl ch wo ge sp tr who g gw gh p m (m0.w 0) at_ W hM _ rfl (by rw [gww]) hI np (by omega) hs, .inr ⟨rfl, gn, ?_, ?_, fun j hj => ?_, .inl ⟨rfl, hok, ?_⟩⟩⟩
    · show _ ≤ m.steps + 1; omega
    · show m.steps + 1 ≤ _; omega
    · show upd m.w 0 _ j = _
      unfold upd; rw [if_neg hj, gww]
    · exact upd_same m.w 0 (IntKind.u64.wrap (m0.w 0 + 1))
/-- What stays, when a block of this call's own is let go. -/
theorem Keep3.andL {g gw gh p : Nat} {W W1 W2 : World} (h : Keep3 g gw gh W W1) (k : KeepL [p, g, gw, gh] W1 W2) (hp : W.heap.size ≤ p) : Keep3 g gw gh W W2 :=
  ⟨k.os.trans h.os, k.tape.trans h.tape, k.output.trans h.output, Nat.le_trans h.size k.size, fun i hi a b c => (k.block i (Nat.lt_of_lt_of_le hi h.size) (by simp; omega)).trans (h.block i hi a b c)⟩

/-! ### The arena -/
set_option maxHeartbeats 1000000 in
set_option maxRecDepth 100000 in
theorem Arena_any (th ch wo : Nat) (w : World) (h0 : 1 ≤ th ∧ th ≤ 8) (h2 : 1 ≤ ch ∧ ch ≤ 64) (h3 : 17 ≤ wo ∧ wo ≤ 256) :
    Calls Try.prog 63 #[.int .i64 th, .int .i64 1, .int .i64 ch, .int .i64 wo] w fun e w' => ∃ g gw gh, e = .returned (.tuple #[.agg #[.int .i64 th, .int .i64 1, .int .i64 ch, .int .i64 wo, .int .i64 100, .int .i64 600, .int .i64 3, .pointer (some ⟨g, 0, none⟩), .int .i64 0], .bool true]) ∧
      MemAt w' g gw gh (freshOne th ch wo) ∧ Below w.heap.size w w' ∧ w.heap.size ≤ g ∧ w.heap.size ≤ gw ∧ w.heap.size ≤ gh := by
  have HF := fun W => Lib.hid (Fresh_one th ch wo 100 600 3 W h0 h2 h3 (by omega) (by omega) (by omega))
  clear h0 h2 h3
  go_enter Try.func63, Try.ntmps63
  go_wp2_with fail
  refine (HF _).out.mono ?_
  rintro e w2 ⟨g, gw, gh, rfl, hM, hb2, b0, b1, b2⟩
  simp at b0 b1 b2
  have ho : w2.heap[w.heap.size]? = some (.cells #[.int .i64 0, .int .i64 0, .int .i64 0, .int .i64 0, .int .i64 0, .int .i64 0, .int .i64 0, .pointer none, .int .i64 0] 87 (0, 0)) := by
    rw [hb2.block _ (by simp; omega), Below.heap_alloc _ _ _ (by simp)]; exact heap_alloc_new w _
  have hc : w2.heap[w.heap.size + 1]? = some (.cells #[.int .i64 th, .int .i64 1, .int .i64 ch, .int .i64 wo, .int .i64 100, .int .i64 600, .int .i64 3] 85 (0, 0)) := by
    rw [hb2.block _ (by simp)]
    have h := heap_alloc_new (w.alloc (.cells #[.int .i64 0, .int .i64 0, .int .i64 0, .int .i64 0, .int .i64 0, .int .i64 0, .int .i64 0, .pointer none, .int .i64 0] 87)) (.cells #[.int .i64 th, .int .i64 1, .int .i64 ch, .int .i64 wo, .int .i64 100, .int .i64 600, .int .i64 3] 85)
    rw [show (w.alloc (.cells #[.int .i64 0, .int .i64 0, .int .i64 0, .int .i64 0, .int .i64 0, .int .i64 0, .int .i64 0, .pointer none, .int .i64 0] 87)).heap.size = w.heap.size + 1 from by simp] at h
    exact h
  have o0 := cell_of_row w2 w.heap.size 0 _ _ _ ho
  have p0 := frozen_of 0 ho
  have o1 := cell_of_row w2 w.heap.size 1 _ _ _ ho
  have p1 := frozen_of 1 ho
  have o2 := cell_of_row w2 w.heap.size 2 _ _ _ ho
  have p2 := frozen_of 2 ho
  have o3 := cell_of_row w2 w.heap.size 3 _ _ _ ho
  have p3 := frozen_of 3 ho
  have o4 := cell_of_row w2 w.heap.size 4 _ _ _ ho
  have p4 := frozen_of 4 ho
  have o5 := cell_of_row w2 w.heap.size 5 _ _ _ ho
  have p5 := frozen_of 5 ho
  have o6 := cell_of_row w2 w.heap.size 6 _ _ _ ho
  have p6 := frozen_of 6 ho
  have o7 := cell_of_row w2 w.heap.size 7 _ _ _ ho
  have p7 := frozen_of 7 ho
  have o8 := cell_of_row w2 w.heap.size 8 _ _ _ ho
  have p8 := frozen_of 8 ho
  have q0 := cell_of_row w2 (w.heap.size + 1) 0 _ _ _ hc
  have q1 := cell_of_row w2 (w.heap.size + 1) 1 _ _ _ hc
  have q2 := cell_of_row w2 (w.heap.size + 1) 2 _ _ _ hc
  have q3 := cell_of_row w2 (w.heap.size + 1) 3 _ _ _ hc
  have q4 := cell_of_row w2 (w.heap.size + 1) 4 _ _ _ hc
  have q5 := cell_of_row w2 (w.heap.size + 1) 5 _ _ _ hc
  have q6 := cell_of_row w2 (w.heap.size + 1) 6 _ _ _ hc
  go_wp2
  have hB : Below w.heap.size w w2 := (below_new _ _).trans ((below_new _ _).mono (by simp) |>.trans (hb2.mono (by simp; omega)))
  refine bodyPost_ret (v := .tuple #[.agg #[.int .i64 th, .int .i64 1, .int .i64 ch, .int .i64 wo, .int .i64 100, .int .i64 600, .int .i64 3, .pointer (some ⟨g, 0, none⟩), .int .i64 0], .bool true]) (by simp [results, Try.results63, go_sem, o0, o1, o2, o3, o4, o5, o6, o7, o8]) rfl ⟨g, gw, gh, rfl, ?_, ?_, by omega, by omega, by omega⟩
  · iterate 9 refine MemAt.far ?_ _ (by show g ≠ w.heap.size; omega) (by show gw ≠ w.heap.size; omega) (by show gh ≠ w.heap.size; omega)
    exact hM
  · iterate 9 refine Below.setCell ?_ (Nat.le_refl w.heap.size) _
    exact hB

/-! ### The loop -/
set_option maxHeartbeats 1000000 in
set_option maxRecDepth 100000 in
theorem advance_any (th : Nat) (sl ch wo ge sp tr who : Int) (g gw gh : Nat) (m : Ms) (W : World) (hM : MemAt W g gw gh m) (h8 : 1 ≤ th ∧ th ≤ 8) (hn : 6 + th ≤ m.n) (hs : m.steps < 4611686018427387000) :
    Calls Try.prog 65 #[.agg #[.int .i64 (th : Nat), .int .i64 sl, .int .i64 ch, .int .i64 wo, .int .i64 ge, .int .i64 sp, .int .i64 tr, .pointer (some ⟨g, 0, none⟩), .int .i64 who]] W fun e W' => ∃ b m', e = .returned (.bool b) ∧ MemAt W' g gw gh m' ∧ Hid (AEnd th m m' b) ∧ Keep3 g gw gh W W' := by
  have H8 := Lib.hid h8
  have HN := Lib.hid hn
  have HS := Lib.hid hs
  clear h8 hn hs
  have hX0 : ((W.alloc (.cells #[.int .i64 (th : Nat), .int .i64 sl, .int .i64 ch, .int .i64 wo, .int .i64 ge, .int .i64 sp, .int .i64 tr, .pointer (some ⟨g, 0, none⟩), .int .i64 who] 87)).alloc (.cells #[.int .i64 0, .int .u64 0, .int .i64 0, .bool false] 107)).heap[W.heap.size]? = some (.cells #[.int .i64 (th : Nat), .int .i64 sl, .int .i64 ch, .int .i64 wo, .int .i64 ge, .int .i64 sp, .int .i64 tr, .pointer (some ⟨g, 0, none⟩), .int .i64 who] 87 (0, 0)) := by
    rw [Below.heap_alloc _ _ _ (by simp)]; exact heap_alloc_new W _
  have hI0 : AdvAt ((W.alloc (.cells #[.int .i64 (th : Nat), .int .i64 sl, .int .i64 ch, .int .i64 wo, .int .i64 ge, .int .i64 sp, .int .i64 tr, .pointer (some ⟨g, 0, none⟩), .int .i64 who] 87)).alloc (.cells #[.int .i64 0, .int .u64 0, .int .i64 0, .bool false] 107)) (W.heap.size + 1) 0 0 0 false := by
    have h := heap_alloc_new (W.alloc (.cells #[.int .i64 (th : Nat), .int .i64 sl, .int .i64 ch, .int .i64 wo, .int .i64 ge, .int .i64 sp, .int .i64 tr, .pointer (some ⟨g, 0, none⟩), .int .i64 who] 87)) (.cells #[.int .i64 0, .int .u64 0, .int .i64 0, .bool false] 107)
    rw [show (W.alloc (.cells #[.int .i64 (th : Nat), .int .i64 sl, .int .i64 ch, .int .i64 wo, .int .i64 ge, .int .i64 sp, .int .i64 tr, .pointer (some ⟨g, 0, none⟩), .int .i64 who] 87)).heap.size = W.heap.size + 1 from by simp] at h
    exact h
  have hM0 := (hM.below (below_new W (.cells #[.int .i64 (th : Nat), .int .i64 sl, .int .i64 ch, .int .i64 wo, .int .i64 ge, .int .i64 sp, .int .i64 tr, .pointer (some ⟨g, 0, none⟩), .int .i64 who] 87))).below (below_new _ (.cells #[.int .i64 0, .int .u64 0, .int .i64 0, .bool false] 107))
  have hK0 : Keep3 g gw gh W ((W.alloc (.cells #[.int .i64 (th : Nat), .int .i64 sl, .int .i64 ch, .int .i64 wo, .int .i64 ge, .int .i64 sp, .int .i64 tr, .pointer (some ⟨g, 0, none⟩), .int .i64 who] 87)).alloc (.cells #[.int .i64 0, .int .u64 0, .int .i64 0, .bool false] 107)) := (Keep3.of_below (below_new _ _)).alloc _
  have np : W.heap.size + 1 ≠ g ∧ W.heap.size + 1 ≠ gw ∧ W.heap.size + 1 ≠ gh := by have := hM.lt; have := hM.ltw; have := hM.lth; omega
  have hnx : W.heap.size ∉ [W.heap.size + 1, g, gw, gh] := by have := hM.lt; have := hM.ltw; have := hM.lth; simp; omega
  have hG0 : Hid (AGood th m 0 m 0 0 0) := ⟨rfl, by omega, rfl, .inl ⟨rfl, rfl, rfl⟩⟩
  go_enter Try.func65, Try.ntmps65
  go_wp2_with fail
  go_loopw [4] (fun i wr => ∃ (k : Nat) (m1 : Ms) (pc now at_ : Int), i = .int .i64 k ∧ Hid (AGood th m k m1 pc now at_) ∧ MemAt wr g gw gh m1 ∧ AdvAt wr (W.heap.size + 1) pc now at_ false ∧ wr.heap[W.heap.size]? = some (.cells #[.int .i64 (th : Nat), .int .i64 sl, .int .i64 ch, .int .i64 wo, .int .i64 ge, .int .i64 sp, .int .i64 tr, .pointer (some ⟨g, 0, none⟩), .int .i64 who] 87 (0, 0)) ∧ Keep3 g gw gh W wr) (fun i _ => 40 - (intOf i).toNat)
  case atStart => exact ⟨0, _, 0, 0, 0, rfl, hG0, hM0, hI0, hX0, hK0⟩
  case round =>
    rename_i wr
    obtain ⟨k, m1, pc, now, at_, rfl, hG, hM1, hI1, hX1, hK1⟩ := hrel
    clear hG0 hM0 hI0 hX0 hK0
    have hk : k ≤ 9 := by have := hG.out.le; have := H8.out; omega
    have hst : m1.steps < 4611686018427387904 := by have := hG.out.steps; have := HS.out; omega
    obtain ⟨d, m', pc', now', at', went', HC, hd⟩ := AdvStep_all th sl ch wo ge sp tr who g gw gh (W.heap.size + 1) m m1 k pc now at_ wr hM1 hI1 np H8.out HN.out hst hG.out
    have k0 := cell_of_row _ W.heap.size 0 _ _ _ hX1
    have k1 := cell_of_row _ W.heap.size 1 _ _ _ hX1
    have k2 := cell_of_row _ W.heap.size 2 _ _ _ hX1
    have k3 := cell_of_row _ W.heap.size 3 _ _ _ hX1
    have k4 := cell_of_row _ W.heap.size 4 _ _ _ hX1
    have k5 := cell_of_row _ W.heap.size 5 _ _ _ hX1
    have k6 := cell_of_row _ W.heap.size 6 _ _ _ hX1
    have k7 := cell_of_row _ W.heap.size 7 _ _ _ hX1
    have k8 := cell_of_row _ W.heap.size 8 _ _ _ hX1
    have hki : (k : Int) < 40 := by omega
    rcases hd with ⟨rfl, rfl, hG'⟩ | ⟨rfl, hE⟩
    · have HG' := Lib.hid hG'
      clear hG' hst
      go_wp2_with fail
      refine HC.out.mono ?_
      rintro e w9 ⟨rfl, hM9, hI9, hK9⟩
      have hX9 := hK9.heap hX1 hnx
      have hKK := hK1.andL hK9 (by omega)
      clear hK9 k0 k1 k2 k3 k4 k5 k6 k7 k8 HC hM1 hI1 hX1 hK1
      go_wp2
      go_roundw
      case rel => exact ⟨k + 1, m', pc', now', at', by go_num, HG', hM9, hI9, hX9, hKK⟩
      case measure => simp [intOf]; omega
    · have HE := Lib.hid hE
      clear hE hst
      go_wp2_with fail
      refine HC.out.mono ?_
      rintro e w9 ⟨rfl, hM9, hI9, hK9⟩
      have hKK := hK1.andL hK9 (by omega)
      clear hK9 k0 k1 k2 k3 k4 k5 k6 k7 k8 HC hM1 hI1 hX1 hK1
      go_wp2_with fail
      refine (AdvWent (W.heap.size + 1) pc' now' at' went' _ hI9).mono ?_
      rintro e w8 ⟨rfl, hw⟩
      obtain rfl := hw.symm
      clear hw
      go_wp2
      go_ret
      exact ⟨went', m', rfl, hM9, HE, hKK⟩
end Go.Proofs.Ytnpjfdiapoghnaa
