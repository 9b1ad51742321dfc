/- Layer 1's statement WordParts: the walk. -/
import Derived.Test.YtnpjfdiapoghnaaLaw1f
import Derived.Test.YtnpjfdiapoghnaaSteps
import Derived.Test.YtnpjfdiapoghnaaMem
namespace Go.Proofs.Ytnpjfdiapoghnaa
open Go Go.RowKit

theorem putSlot_in (a b c d : Int) (a0 : 0 ≤ a) (a1 : a ≤ 7) (b0 : 0 ≤ b) (b1 : b ≤ 1048575) (c0 : 0 ≤ c) (c1 : c ≤ 65535) (d0 : 0 ≤ d) (d1 : d ≤ 4194303) :
    ∃ p : Int, Hid (∀ w : World, Calls Try.prog 28 #[.agg #[.int .i64 a, .int .i64 b, .int .i64 c, .int .i64 d]] w fun e w' => e = .returned (.int .u64 p) ∧ Below w.heap.size w w') ∧
      Hid (∀ w : World, Calls Try.prog 30 #[.int .u64 p] w fun e w' => e = .returned (.agg #[.int .i64 a, .int .i64 b, .int .i64 c, .int .i64 d]) ∧ Below w.heap.size w w') ∧ p = a + b * 8 + c * 8388608 + d * 549755813888 := by
  have e : putSlot a b c d = a + b * 8 + c * 8388608 + d * 549755813888 := by
    unfold putSlot; rw [fitI_in a 7 a0 a1, fitI_in b 1048575 b0 b1, fitI_in c 65535 c0 c1, fitI_in d 4194303 d0 d1]
  refine ⟨_, fun w => PutSlot_any a b c d w, fun w => Slot_at _ a b c d w ?_, e⟩
  show _ ∧ _
  rw [e]
  refine ⟨by omega, by omega, by omega, by omega, by omega, by omega⟩

/-- The boxes x and y, and the new boxes a and b, as far as they are made. -/
structure WSt (w W : World) (g : Nat) (cx cy : Array Value) (a b : Option Nat) : Prop where
  hx : W.heap[g]? = some (.cells cx 33 (0, 0))
  hy : W.heap[g + 1]? = some (.cells cy 33 (0, 0))
  B : Below w.heap.size w W
  s : w.heap.size ≤ g
  ha : ∀ n, a = some n → W.heap[n]? = some (.cells #[.int .i64 0, .int .i64 0, .int .i64 0, .int .i64 0] 33 (0, 0)) ∧ g + 1 < n
  hb : ∀ n, b = some n → W.heap[n]? = some (.cells #[.int .i64 0, .int .i64 0, .int .i64 0, .int .i64 0] 33 (0, 0)) ∧ g + 1 < n
  ne : ∀ n k, a = some n → b = some k → n ≠ k
section
variable {w W W' : World} {g : Nat} {cx cy : Array Value} {a b : Option Nat}
theorem lt_of_heap1 {W : World} {g : Nat} {o : Obj} (h : W.heap[g]? = some o) : g < W.heap.size := (Array.getElem?_eq_some_iff.1 h).1
theorem WSt.step (h : WSt w W g cx cy a b) (k : Below W.heap.size W W') : WSt w W' g cx cy a b :=
  ⟨(k.block _ (lt_of_heap1 h.hx)).trans h.hx, (k.block _ (lt_of_heap1 h.hy)).trans h.hy, h.B.trans (k.mono (by have := lt_of_heap1 h.hx; have := h.s; omega)), h.s,
   fun n e => ⟨(k.block _ (lt_of_heap1 (h.ha n e).1)).trans (h.ha n e).1, (h.ha n e).2⟩, fun n e => ⟨(k.block _ (lt_of_heap1 (h.hb n e).1)).trans (h.hb n e).1, (h.hb n e).2⟩, h.ne⟩
theorem WSt.allocA (h : WSt w W g cx cy none b) : WSt w (W.alloc (.cells #[.int .i64 0, .int .i64 0, .int .i64 0, .int .i64 0] 33)) g cx cy (some W.heap.size) b := by
  have h2 := h.step (below_new W (.cells #[.int .i64 0, .int .i64 0, .int .i64 0, .int .i64 0] 33))
  have h3 := lt_of_heap1 h.hy
  exact ⟨h2.hx, h2.hy, h2.B, h2.s, fun n e => by cases e; exact ⟨heap_alloc_new W _, by omega⟩, h2.hb, fun n k e1 e2 => by cases e1; have := lt_of_heap1 (h.hb k e2).1; omega⟩
theorem WSt.allocB (h : WSt w W g cx cy a none) : WSt w (W.alloc (.cells #[.int .i64 0, .int .i64 0, .int .i64 0, .int .i64 0] 33)) g cx cy a (some W.heap.size) := by
  have h2 := h.step (below_new W (.cells #[.int .i64 0, .int .i64 0, .int .i64 0, .int .i64 0] 33))
  have h3 := lt_of_heap1 h.hy
  exact ⟨h2.hx, h2.hy, h2.B, h2.s, h2.ha, fun n e => by cases e; exact ⟨heap_alloc_new W _, by omega⟩, fun n k e1 e2 => by cases e2; have := lt_of_heap1 (h.ha n e1).1; omega⟩
end
theorem put4_far {W : World} {n k : Nat} (h : k ≠ n) (p q r s : Value) : ((((W.setCell ⟨n, 0, none⟩ p).setCell ⟨n, 1, none⟩ q).setCell ⟨n, 2, none⟩ r).setCell ⟨n, 3, none⟩ s).heap[k]? = W.heap[k]? :=
  (heap_set_far (p := ⟨n, 3, none⟩) s h).trans ((heap_set_far (p := ⟨n, 2, none⟩) r h).trans ((heap_set_far (p := ⟨n, 1, none⟩) q h).trans (heap_set_far (p := ⟨n, 0, none⟩) p h)))
theorem put4_self {W : World} {n : Nat} {t : TypeId} {a b c d : Value} (h : W.heap[n]? = some (.cells #[a, b, c, d] t (0, 0))) (p q r s : Value) : ((((W.setCell ⟨n, 0, none⟩ p).setCell ⟨n, 1, none⟩ q).setCell ⟨n, 2, none⟩ r).setCell ⟨n, 3, none⟩ s).heap[n]? = some (.cells #[p, q, r, s] t (0, 0)) :=
  heap_set_self 3 s (heap_set_self 2 r (heap_set_self 1 q (heap_set_self 0 p h)))
theorem put4_below {B : Nat} {w W : World} {n : Nat} (h : Below B w W) (hn : B ≤ n) (p q r s : Value) : Below B w ((((W.setCell ⟨n, 0, none⟩ p).setCell ⟨n, 1, none⟩ q).setCell ⟨n, 2, none⟩ r).setCell ⟨n, 3, none⟩ s) :=
  (((h.setCell (p := ⟨n, 0, none⟩) hn p).setCell (p := ⟨n, 1, none⟩) hn q).setCell (p := ⟨n, 2, none⟩) hn r).setCell (p := ⟨n, 3, none⟩) hn s
structure BoxW (P : Prop) : Prop where
  out : P
theorem cutW {K Q : Prop} (h : BoxW K → Q) (k : K) : Q := h ⟨k⟩

attribute [local go_sem high] eqSlot
set_option linter.unusedSimpArgs false in
set_option maxHeartbeats 4000000 in
set_option maxRecDepth 100000 in
theorem WordParts_any (a b c d st ve : Int) (w : World) (ha : a ≤ 9223372036854775807) (hb : b ≤ 9223372036854775807) (hc : c ≤ 9223372036854775807) (hd : d ≤ 9223372036854775807) :
    Calls Try.prog 5 #[.agg #[.int .i64 a, .int .i64 b, .int .i64 c, .int .i64 d], .int .i64 st, .int .i64 ve] w fun e w' => e = .returned (.bool true) ∧ Below w.heap.size w w' := by
  have bs := and_i64_bd 3 st 7 (by decide) (by omega)
  have bv := and_i64_bd 22 ve 4194303 (by decide) (by omega)
  obtain ⟨s0, es⟩ : ∃ x : Int, bits .and .i64 st 7 = x := ⟨_, rfl⟩
  obtain ⟨v0, ev⟩ : ∃ x : Int, bits .and .i64 ve 4194303 = x := ⟨_, rfl⟩
  rw [es] at bs
  rw [ev] at bv
  have hp := putSlot_bd a b c d
  have HR0 := fun w => RefSlot_any a b c d w ha hb hc hd
  generalize putSlot a b c d = p at *
  have HR := Lib.hid HR0
  obtain ⟨x0, x1, x2, x3, hz, bx⟩ : ∃ y0 y1 y2 y3 : Int, Hid (0 ≤ p ∧ p < 18446744073709551616 ∧ y0 = p % 8 ∧ y1 = p / 8 % 1048576 ∧ y2 = p / 8388608 % 65536 ∧ y3 = p / 549755813888 % 4194304) ∧
      (0 ≤ y0 ∧ y0 ≤ 7 ∧ 0 ≤ y1 ∧ y1 ≤ 1048575 ∧ 0 ≤ y2 ∧ y2 ≤ 65535 ∧ 0 ≤ y3 ∧ y3 ≤ 4194303) := ⟨_, _, _, _, ⟨hp.1, hp.2, rfl, rfl, rfl, rfl⟩, by omega⟩
  obtain ⟨bx0, bx1, bx2, bx3, bx4, bx5, bx6, bx7⟩ := bx
  obtain ⟨px, HPX, HSX, _⟩ := putSlot_in x0 x1 x2 x3 bx0 bx1 bx2 bx3 bx4 bx5 bx6 bx7
  obtain ⟨py, HPY, HSY, _⟩ := putSlot_in s0 x1 x2 v0 bs.1 bs.2 bx2 bx3 bx4 bx5 bv.1 bv.2
  rename_i g1 g2
  clear ha hb hc hd HR0 hp bx0 bx1 bx2 bx3 bx4 bx5 bx6 bx7 bs bv g1 g2
  have HS := BoxN.new w #[.int .i64 a, .int .i64 b, .int .i64 c, .int .i64 d] 33
  go_enter Try.func5, Try.ntmps5
  go_wp2_with fail
  refine (HR.out _).mono ?_
  rintro e w1 ⟨rfl, hb⟩
  replace HS := HS.step hb
  clear hb
  go_wp2_with fail
  refine (GetSlot_at p x0 x1 x2 x3 _ hz).mono ?_
  rintro e w2 ⟨rfl, hb⟩
  replace HS := HS.step hb
  clear hb
  have HB := HS.below
  clear HS
  have hz2 := HB.size
  go_wp2_with fail
  have h1 := heap_alloc_new w2 (.cells #[.int .i64 x0, .int .i64 x1, .int .i64 x2, .int .i64 x3] 33)
  have h2 := heap_alloc_new (w2.alloc (.cells #[.int .i64 x0, .int .i64 x1, .int .i64 x2, .int .i64 x3] 33)) (.cells #[.int .i64 s0, .int .i64 x1, .int .i64 x2, .int .i64 v0] 33)
  rw [show (w2.alloc (.cells #[.int .i64 x0, .int .i64 x1, .int .i64 x2, .int .i64 x3] 33)).heap.size = w2.heap.size + 1 from by simp] at h2
  have HS0 : WSt w ((w2.alloc (.cells #[.int .i64 x0, .int .i64 x1, .int .i64 x2, .int .i64 x3] 33)).alloc (.cells #[.int .i64 s0, .int .i64 x1, .int .i64 x2, .int .i64 v0] 33)).drew w2.heap.size #[.int .i64 x0, .int .i64 x1, .int .i64 x2, .int .i64 x3] #[.int .i64 s0, .int .i64 x1, .int .i64 x2, .int .i64 v0] none none := by
    refine ⟨?_, h2, ((HB.alloc hz2 _).alloc (by simp; omega) _).drew, hz2, fun n e => (by cases e), fun n e => (by cases e), fun n k e => (by cases e)⟩
    show ((w2.alloc (.cells #[.int .i64 x0, .int .i64 x1, .int .i64 x2, .int .i64 x3] 33)).alloc (.cells #[.int .i64 s0, .int .i64 x1, .int .i64 x2, .int .i64 v0] 33)).heap[w2.heap.size]? = _
    rw [Below.heap_alloc _ _ _ (by simp)]; exact h1
  clear h1 h2 HB hz2
  generalize (w2.alloc (.cells #[.int .i64 x0, .int .i64 x1, .int .i64 x2, .int .i64 x3] 33)).alloc (.cells #[.int .i64 s0, .int .i64 x1, .int .i64 x2, .int .i64 v0] 33) = W40 at HS0 ⊢
  apply cutW
  · intro key411
    apply cutW
    · intro key401
      apply cutW
      · intro key410
        apply cutW
        · intro key400
          apply cutW
          · intro key311
            apply cutW
            · intro key301
              apply cutW
              · intro key310
                apply cutW
                · intro key300
                  apply cutW
                  · intro key211
                    apply cutW
                    · intro key201
                      apply cutW
                      · intro key210
                        apply cutW
                        · intro key200
                          apply cutW
                          · intro key111
                            apply cutW
                            · intro key101
                              apply cutW
                              · intro key110
                                apply cutW
                                · intro key100
                                  apply cutW
                                  · intro key011
                                    apply cutW
                                    · intro key001
                                      apply cutW
                                      · intro key010
                                        apply cutW
                                        · intro key000
                                          have HS := HS0
                                          refine wp_region_noPanic ?_
                                          refine wp_region_held_drew (S := (fun w' => w'.cell? ⟨w2.heap.size, 0, none⟩ = some (.int .i64 x0) ∧ w'.cell? ⟨w2.heap.size, 1, none⟩ = some (.int .i64 x1) ∧ w'.cell? ⟨w2.heap.size, 2, none⟩ = some (.int .i64 x2) ∧ w'.cell? ⟨w2.heap.size, 3, none⟩ = some (.int .i64 x3) ∧ w'.cell? ⟨w2.heap.size + 1, 0, none⟩ = some (.int .i64 s0) ∧ w'.cell? ⟨w2.heap.size + 1, 1, none⟩ = some (.int .i64 x1) ∧ w'.cell? ⟨w2.heap.size + 1, 2, none⟩ = some (.int .i64 x2) ∧ w'.cell? ⟨w2.heap.size + 1, 3, none⟩ = some (.int .i64 v0))) (by kernel_rfl) (by exact ⟨cell_of_row _ (w2.heap.size) 0 _ _ _ HS.hx, cell_of_row _ (w2.heap.size) 1 _ _ _ HS.hx, cell_of_row _ (w2.heap.size) 2 _ _ _ HS.hx, cell_of_row _ (w2.heap.size) 3 _ _ _ HS.hx, cell_of_row _ (w2.heap.size + 1) 0 _ _ _ HS.hy, cell_of_row _ (w2.heap.size + 1) 1 _ _ _ HS.hy, cell_of_row _ (w2.heap.size + 1) 2 _ _ _ HS.hy, cell_of_row _ (w2.heap.size + 1) 3 _ _ _ HS.hy⟩) (fun hH => ?_)
                                          refine take_at (i := 0) (v := ?_) rfl (by kernel_rfl) (by kernel_rfl) (by kernel_rfl) (fun _ _ _ h => h) (Or.inl ⟨by rfl, ?_⟩) hH ?_
                                          rotate_left
                                          · (intro w hSw; (try dsimp only at hSw); go_simp; (try with_reducible rfl))
                                          (try simp only [Act.put, List.setIfInBounds_toArray, List.set_cons_zero, List.set_cons_succ])
                                          refine take_at (i := 3) (v := ?_) rfl (by kernel_rfl) (by kernel_rfl) (by kernel_rfl) (fun _ _ _ h => h) (Or.inl ⟨by rfl, ?_⟩) hH ?_
                                          rotate_left
                                          · (intro w hSw; (try dsimp only at hSw); go_simp; (try with_reducible rfl))
                                          (try simp only [Act.put, List.setIfInBounds_toArray, List.set_cons_zero, List.set_cons_succ])
                                          show wpAnyH _ _ _ _ _ _ #[true, false, false, true, false, false, false, false, false, false] _ _
                                          revert hH HS
                                          generalize W40.drew = W9
                                          revert W9
                                          exact key000.out
                                        · intro W HS hH
                                          refine wpAnyH_ready (rs := [1, 6, 7]) (by kernel_rfl) (by simp) ?_
                                          refine cons_at rfl (fun K hK => ?_) (cons_at rfl (fun K hK => ?_) (cons_at rfl (fun K hK => ?_) AllReadyH.nil))
                                          · go_simp
                                            go_at_call_of 28 x0
                                            refine (HPX.out _).mono ?_
                                            rintro e w9 ⟨rfl, hb⟩
                                            (try go_wp2_with fail)
                                            replace HS := HS.step hb
                                            clear hb hH
                                            refine hK.out _ _ (by exact ⟨cell_of_row _ (w2.heap.size) 0 _ _ _ HS.hx, cell_of_row _ (w2.heap.size) 1 _ _ _ HS.hx, cell_of_row _ (w2.heap.size) 2 _ _ _ HS.hx, cell_of_row _ (w2.heap.size) 3 _ _ _ HS.hx, cell_of_row _ (w2.heap.size + 1) 0 _ _ _ HS.hy, cell_of_row _ (w2.heap.size + 1) 1 _ _ _ HS.hy, cell_of_row _ (w2.heap.size + 1) 2 _ _ _ HS.hy, cell_of_row _ (w2.heap.size + 1) 3 _ _ _ HS.hy⟩) (fun hH => ?_)
                                            clear hK K
                                            (try simp only [Act.put, List.setIfInBounds_toArray, List.set_cons_zero, List.set_cons_succ])
                                            show wpAnyH _ _ _ _ _ _ #[true, true, false, true, false, false, false, false, false, false] _ _
                                            revert hH HS
                                            revert w9
                                            exact key100.out
                                          · go_simp
                                            replace HS := HS.allocA
                                            clear hH
                                            refine hK.out _ _ (by exact ⟨cell_of_row _ (w2.heap.size) 0 _ _ _ HS.hx, cell_of_row _ (w2.heap.size) 1 _ _ _ HS.hx, cell_of_row _ (w2.heap.size) 2 _ _ _ HS.hx, cell_of_row _ (w2.heap.size) 3 _ _ _ HS.hx, cell_of_row _ (w2.heap.size + 1) 0 _ _ _ HS.hy, cell_of_row _ (w2.heap.size + 1) 1 _ _ _ HS.hy, cell_of_row _ (w2.heap.size + 1) 2 _ _ _ HS.hy, cell_of_row _ (w2.heap.size + 1) 3 _ _ _ HS.hy⟩) (fun hH => ?_)
                                            clear hK K
                                            (try simp only [Act.put, List.setIfInBounds_toArray, List.set_cons_zero, List.set_cons_succ])
                                            show wpAnyH _ _ _ _ _ _ #[true, false, false, true, false, false, true, false, false, false] _ _
                                            revert hH HS
                                            generalize W.alloc (.cells #[.int .i64 0, .int .i64 0, .int .i64 0, .int .i64 0] 33) = W9
                                            generalize W.heap.size = ba
                                            revert W9
                                            revert ba
                                            exact key010.out
                                          · go_simp
                                            replace HS := HS.allocB
                                            clear hH
                                            refine hK.out _ _ (by exact ⟨cell_of_row _ (w2.heap.size) 0 _ _ _ HS.hx, cell_of_row _ (w2.heap.size) 1 _ _ _ HS.hx, cell_of_row _ (w2.heap.size) 2 _ _ _ HS.hx, cell_of_row _ (w2.heap.size) 3 _ _ _ HS.hx, cell_of_row _ (w2.heap.size + 1) 0 _ _ _ HS.hy, cell_of_row _ (w2.heap.size + 1) 1 _ _ _ HS.hy, cell_of_row _ (w2.heap.size + 1) 2 _ _ _ HS.hy, cell_of_row _ (w2.heap.size + 1) 3 _ _ _ HS.hy⟩) (fun hH => ?_)
                                            clear hK K
                                            (try simp only [Act.put, List.setIfInBounds_toArray, List.set_cons_zero, List.set_cons_succ])
                                            show wpAnyH _ _ _ _ _ _ #[true, false, false, true, false, false, false, true, false, false] _ _
                                            revert hH HS
                                            generalize W.alloc (.cells #[.int .i64 0, .int .i64 0, .int .i64 0, .int .i64 0] 33) = W9
                                            generalize W.heap.size = bb
                                            revert W9
                                            revert bb
                                            exact key001.out
                                      · intro ba W HS hH
                                        refine wpAnyH_ready (rs := [1, 7]) (by kernel_rfl) (by simp) ?_
                                        refine cons_at rfl (fun K hK => ?_) (cons_at rfl (fun K hK => ?_) AllReadyH.nil)
                                        · go_simp
                                          go_at_call_of 28 x0
                                          refine (HPX.out _).mono ?_
                                          rintro e w9 ⟨rfl, hb⟩
                                          (try go_wp2_with fail)
                                          replace HS := HS.step hb
                                          clear hb hH
                                          refine hK.out _ _ (by exact ⟨cell_of_row _ (w2.heap.size) 0 _ _ _ HS.hx, cell_of_row _ (w2.heap.size) 1 _ _ _ HS.hx, cell_of_row _ (w2.heap.size) 2 _ _ _ HS.hx, cell_of_row _ (w2.heap.size) 3 _ _ _ HS.hx, cell_of_row _ (w2.heap.size + 1) 0 _ _ _ HS.hy, cell_of_row _ (w2.heap.size + 1) 1 _ _ _ HS.hy, cell_of_row _ (w2.heap.size + 1) 2 _ _ _ HS.hy, cell_of_row _ (w2.heap.size + 1) 3 _ _ _ HS.hy⟩) (fun hH => ?_)
                                          clear hK K
                                          (try simp only [Act.put, List.setIfInBounds_toArray, List.set_cons_zero, List.set_cons_succ])
                                          show wpAnyH _ _ _ _ _ _ #[true, true, false, true, false, false, true, false, false, false] _ _
                                          revert hH HS
                                          revert w9
                                          revert ba
                                          exact key110.out
                                        · go_simp
                                          replace HS := HS.allocB
                                          clear hH
                                          refine hK.out _ _ (by exact ⟨cell_of_row _ (w2.heap.size) 0 _ _ _ HS.hx, cell_of_row _ (w2.heap.size) 1 _ _ _ HS.hx, cell_of_row _ (w2.heap.size) 2 _ _ _ HS.hx, cell_of_row _ (w2.heap.size) 3 _ _ _ HS.hx, cell_of_row _ (w2.heap.size + 1) 0 _ _ _ HS.hy, cell_of_row _ (w2.heap.size + 1) 1 _ _ _ HS.hy, cell_of_row _ (w2.heap.size + 1) 2 _ _ _ HS.hy, cell_of_row _ (w2.heap.size + 1) 3 _ _ _ HS.hy⟩) (fun hH => ?_)
                                          clear hK K
                                          (try simp only [Act.put, List.setIfInBounds_toArray, List.set_cons_zero, List.set_cons_succ])
                                          show wpAnyH _ _ _ _ _ _ #[true, false, false, true, false, false, true, true, false, false] _ _
                                          revert hH HS
                                          generalize W.alloc (.cells #[.int .i64 0, .int .i64 0, .int .i64 0, .int .i64 0] 33) = W9
                                          generalize W.heap.size = bb
                                          revert W9
                                          revert bb
                                          revert ba
                                          exact key011.out
                                    · intro bb W HS hH
                                      refine wpAnyH_ready (rs := [1, 6]) (by kernel_rfl) (by simp) ?_
                                      refine cons_at rfl (fun K hK => ?_) (cons_at rfl (fun K hK => ?_) AllReadyH.nil)
                                      · go_simp
                                        go_at_call_of 28 x0
                                        refine (HPX.out _).mono ?_
                                        rintro e w9 ⟨rfl, hb⟩
                                        (try go_wp2_with fail)
                                        replace HS := HS.step hb
                                        clear hb hH
                                        refine hK.out _ _ (by exact ⟨cell_of_row _ (w2.heap.size) 0 _ _ _ HS.hx, cell_of_row _ (w2.heap.size) 1 _ _ _ HS.hx, cell_of_row _ (w2.heap.size) 2 _ _ _ HS.hx, cell_of_row _ (w2.heap.size) 3 _ _ _ HS.hx, cell_of_row _ (w2.heap.size + 1) 0 _ _ _ HS.hy, cell_of_row _ (w2.heap.size + 1) 1 _ _ _ HS.hy, cell_of_row _ (w2.heap.size + 1) 2 _ _ _ HS.hy, cell_of_row _ (w2.heap.size + 1) 3 _ _ _ HS.hy⟩) (fun hH => ?_)
                                        clear hK K
                                        (try simp only [Act.put, List.setIfInBounds_toArray, List.set_cons_zero, List.set_cons_succ])
                                        show wpAnyH _ _ _ _ _ _ #[true, true, false, true, false, false, false, true, false, false] _ _
                                        revert hH HS
                                        revert w9
                                        revert bb
                                        exact key101.out
                                      · go_simp
                                        replace HS := HS.allocA
                                        clear hH
                                        refine hK.out _ _ (by exact ⟨cell_of_row _ (w2.heap.size) 0 _ _ _ HS.hx, cell_of_row _ (w2.heap.size) 1 _ _ _ HS.hx, cell_of_row _ (w2.heap.size) 2 _ _ _ HS.hx, cell_of_row _ (w2.heap.size) 3 _ _ _ HS.hx, cell_of_row _ (w2.heap.size + 1) 0 _ _ _ HS.hy, cell_of_row _ (w2.heap.size + 1) 1 _ _ _ HS.hy, cell_of_row _ (w2.heap.size + 1) 2 _ _ _ HS.hy, cell_of_row _ (w2.heap.size + 1) 3 _ _ _ HS.hy⟩) (fun hH => ?_)
                                        clear hK K
                                        (try simp only [Act.put, List.setIfInBounds_toArray, List.set_cons_zero, List.set_cons_succ])
                                        show wpAnyH _ _ _ _ _ _ #[true, false, false, true, false, false, true, true, false, false] _ _
                                        exact key011.out _ _ _ HS hH
                                  · intro ba bb W HS hH
                                    refine wpAnyH_ready (rs := [1]) (by kernel_rfl) (by simp) ?_
                                    refine cons_at rfl (fun K hK => ?_) AllReadyH.nil
                                    · go_simp
                                      go_at_call_of 28 x0
                                      refine (HPX.out _).mono ?_
                                      rintro e w9 ⟨rfl, hb⟩
                                      (try go_wp2_with fail)
                                      replace HS := HS.step hb
                                      clear hb hH
                                      refine hK.out _ _ (by exact ⟨cell_of_row _ (w2.heap.size) 0 _ _ _ HS.hx, cell_of_row _ (w2.heap.size) 1 _ _ _ HS.hx, cell_of_row _ (w2.heap.size) 2 _ _ _ HS.hx, cell_of_row _ (w2.heap.size) 3 _ _ _ HS.hx, cell_of_row _ (w2.heap.size + 1) 0 _ _ _ HS.hy, cell_of_row _ (w2.heap.size + 1) 1 _ _ _ HS.hy, cell_of_row _ (w2.heap.size + 1) 2 _ _ _ HS.hy, cell_of_row _ (w2.heap.size + 1) 3 _ _ _ HS.hy⟩) (fun hH => ?_)
                                      clear hK K
                                      (try simp only [Act.put, List.setIfInBounds_toArray, List.set_cons_zero, List.set_cons_succ])
                                      show wpAnyH _ _ _ _ _ _ #[true, true, false, true, false, false, true, true, false, false] _ _
                                      revert hH HS
                                      revert w9
                                      revert bb
                                      revert ba
                                      exact key111.out
                                · intro W HS hH
                                  refine wpAnyH_ready (rs := [2, 6, 7]) (by kernel_rfl) (by simp) ?_
                                  refine cons_at rfl (fun K hK => ?_) (cons_at rfl (fun K hK => ?_) (cons_at rfl (fun K hK => ?_) AllReadyH.nil))
                                  · go_simp
                                    go_at_call_of 30 px
                                    refine (HSX.out _).mono ?_
                                    rintro e w9 ⟨rfl, hb⟩
                                    (try go_wp2_with fail)
                                    replace HS := HS.step hb
                                    clear hb hH
                                    refine hK.out _ _ (by exact ⟨cell_of_row _ (w2.heap.size) 0 _ _ _ HS.hx, cell_of_row _ (w2.heap.size) 1 _ _ _ HS.hx, cell_of_row _ (w2.heap.size) 2 _ _ _ HS.hx, cell_of_row _ (w2.heap.size) 3 _ _ _ HS.hx, cell_of_row _ (w2.heap.size + 1) 0 _ _ _ HS.hy, cell_of_row _ (w2.heap.size + 1) 1 _ _ _ HS.hy, cell_of_row _ (w2.heap.size + 1) 2 _ _ _ HS.hy, cell_of_row _ (w2.heap.size + 1) 3 _ _ _ HS.hy⟩) (fun hH => ?_)
                                    clear hK K
                                    (try simp only [Act.put, List.setIfInBounds_toArray, List.set_cons_zero, List.set_cons_succ])
                                    show wpAnyH _ _ _ _ _ _ #[true, true, true, true, false, false, false, false, false, false] _ _
                                    revert hH HS
                                    revert w9
                                    exact key200.out
                                  · go_simp
                                    replace HS := HS.allocA
                                    clear hH
                                    refine hK.out _ _ (by exact ⟨cell_of_row _ (w2.heap.size) 0 _ _ _ HS.hx, cell_of_row _ (w2.heap.size) 1 _ _ _ HS.hx, cell_of_row _ (w2.heap.size) 2 _ _ _ HS.hx, cell_of_row _ (w2.heap.size) 3 _ _ _ HS.hx, cell_of_row _ (w2.heap.size + 1) 0 _ _ _ HS.hy, cell_of_row _ (w2.heap.size + 1) 1 _ _ _ HS.hy, cell_of_row _ (w2.heap.size + 1) 2 _ _ _ HS.hy, cell_of_row _ (w2.heap.size + 1) 3 _ _ _ HS.hy⟩) (fun hH => ?_)
                                    clear hK K
                                    (try simp only [Act.put, List.setIfInBounds_toArray, List.set_cons_zero, List.set_cons_succ])
                                    show wpAnyH _ _ _ _ _ _ #[true, true, false, true, false, false, true, false, false, false] _ _
                                    exact key110.out _ _ HS hH
                                  · go_simp
                                    replace HS := HS.allocB
                                    clear hH
                                    refine hK.out _ _ (by exact ⟨cell_of_row _ (w2.heap.size) 0 _ _ _ HS.hx, cell_of_row _ (w2.heap.size) 1 _ _ _ HS.hx, cell_of_row _ (w2.heap.size) 2 _ _ _ HS.hx, cell_of_row _ (w2.heap.size) 3 _ _ _ HS.hx, cell_of_row _ (w2.heap.size + 1) 0 _ _ _ HS.hy, cell_of_row _ (w2.heap.size + 1) 1 _ _ _ HS.hy, cell_of_row _ (w2.heap.size + 1) 2 _ _ _ HS.hy, cell_of_row _ (w2.heap.size + 1) 3 _ _ _ HS.hy⟩) (fun hH => ?_)
                                    clear hK K
                                    (try simp only [Act.put, List.setIfInBounds_toArray, List.set_cons_zero, List.set_cons_succ])
                                    show wpAnyH _ _ _ _ _ _ #[true, true, false, true, false, false, false, true, false, false] _ _
                                    exact key101.out _ _ HS hH
                              · intro ba W HS hH
                                refine wpAnyH_ready (rs := [2, 7]) (by kernel_rfl) (by simp) ?_
                                refine cons_at rfl (fun K hK => ?_) (cons_at rfl (fun K hK => ?_) AllReadyH.nil)
                                · go_simp
                                  go_at_call_of 30 px
                                  refine (HSX.out _).mono ?_
                                  rintro e w9 ⟨rfl, hb⟩
                                  (try go_wp2_with fail)
                                  replace HS := HS.step hb
                                  clear hb hH
                                  refine hK.out _ _ (by exact ⟨cell_of_row _ (w2.heap.size) 0 _ _ _ HS.hx, cell_of_row _ (w2.heap.size) 1 _ _ _ HS.hx, cell_of_row _ (w2.heap.size) 2 _ _ _ HS.hx, cell_of_row _ (w2.heap.size) 3 _ _ _ HS.hx, cell_of_row _ (w2.heap.size + 1) 0 _ _ _ HS.hy, cell_of_row _ (w2.heap.size + 1) 1 _ _ _ HS.hy, cell_of_row _ (w2.heap.size + 1) 2 _ _ _ HS.hy, cell_of_row _ (w2.heap.size + 1) 3 _ _ _ HS.hy⟩) (fun hH => ?_)
                                  clear hK K
                                  (try simp only [Act.put, List.setIfInBounds_toArray, List.set_cons_zero, List.set_cons_succ])
                                  show wpAnyH _ _ _ _ _ _ #[true, true, true, true, false, false, true, false, false, false] _ _
                                  revert hH HS
                                  revert w9
                                  revert ba
                                  exact key210.out
                                · go_simp
                                  replace HS := HS.allocB
                                  clear hH
                                  refine hK.out _ _ (by exact ⟨cell_of_row _ (w2.heap.size) 0 _ _ _ HS.hx, cell_of_row _ (w2.heap.size) 1 _ _ _ HS.hx, cell_of_row _ (w2.heap.size) 2 _ _ _ HS.hx, cell_of_row _ (w2.heap.size) 3 _ _ _ HS.hx, cell_of_row _ (w2.heap.size + 1) 0 _ _ _ HS.hy, cell_of_row _ (w2.heap.size + 1) 1 _ _ _ HS.hy, cell_of_row _ (w2.heap.size + 1) 2 _ _ _ HS.hy, cell_of_row _ (w2.heap.size + 1) 3 _ _ _ HS.hy⟩) (fun hH => ?_)
                                  clear hK K
                                  (try simp only [Act.put, List.setIfInBounds_toArray, List.set_cons_zero, List.set_cons_succ])
                                  show wpAnyH _ _ _ _ _ _ #[true, true, false, true, false, false, true, true, false, false] _ _
                                  exact key111.out _ _ _ HS hH
                            · intro bb W HS hH
                              refine wpAnyH_ready (rs := [2, 6]) (by kernel_rfl) (by simp) ?_
                              refine cons_at rfl (fun K hK => ?_) (cons_at rfl (fun K hK => ?_) AllReadyH.nil)
                              · go_simp
                                go_at_call_of 30 px
                                refine (HSX.out _).mono ?_
                                rintro e w9 ⟨rfl, hb⟩
                                (try go_wp2_with fail)
                                replace HS := HS.step hb
                                clear hb hH
                                refine hK.out _ _ (by exact ⟨cell_of_row _ (w2.heap.size) 0 _ _ _ HS.hx, cell_of_row _ (w2.heap.size) 1 _ _ _ HS.hx, cell_of_row _ (w2.heap.size) 2 _ _ _ HS.hx, cell_of_row _ (w2.heap.size) 3 _ _ _ HS.hx, cell_of_row _ (w2.heap.size + 1) 0 _ _ _ HS.hy, cell_of_row _ (w2.heap.size + 1) 1 _ _ _ HS.hy, cell_of_row _ (w2.heap.size + 1) 2 _ _ _ HS.hy, cell_of_row _ (w2.heap.size + 1) 3 _ _ _ HS.hy⟩) (fun hH => ?_)
                                clear hK K
                                (try simp only [Act.put, List.setIfInBounds_toArray, List.set_cons_zero, List.set_cons_succ])
                                show wpAnyH _ _ _ _ _ _ #[true, true, true, true, false, false, false, true, false, false] _ _
                                revert hH HS
                                revert w9
                                revert bb
                                exact key201.out
                              · go_simp
                                replace HS := HS.allocA
                                clear hH
                                refine hK.out _ _ (by exact ⟨cell_of_row _ (w2.heap.size) 0 _ _ _ HS.hx, cell_of_row _ (w2.heap.size) 1 _ _ _ HS.hx, cell_of_row _ (w2.heap.size) 2 _ _ _ HS.hx, cell_of_row _ (w2.heap.size) 3 _ _ _ HS.hx, cell_of_row _ (w2.heap.size + 1) 0 _ _ _ HS.hy, cell_of_row _ (w2.heap.size + 1) 1 _ _ _ HS.hy, cell_of_row _ (w2.heap.size + 1) 2 _ _ _ HS.hy, cell_of_row _ (w2.heap.size + 1) 3 _ _ _ HS.hy⟩) (fun hH => ?_)
                                clear hK K
                                (try simp only [Act.put, List.setIfInBounds_toArray, List.set_cons_zero, List.set_cons_succ])
                                show wpAnyH _ _ _ _ _ _ #[true, true, false, true, false, false, true, true, false, false] _ _
                                exact key111.out _ _ _ HS hH
                          · intro ba bb W HS hH
                            refine wpAnyH_ready (rs := [2]) (by kernel_rfl) (by simp) ?_
                            refine cons_at rfl (fun K hK => ?_) AllReadyH.nil
                            · go_simp
                              go_at_call_of 30 px
                              refine (HSX.out _).mono ?_
                              rintro e w9 ⟨rfl, hb⟩
                              (try go_wp2_with fail)
                              replace HS := HS.step hb
                              clear hb hH
                              refine hK.out _ _ (by exact ⟨cell_of_row _ (w2.heap.size) 0 _ _ _ HS.hx, cell_of_row _ (w2.heap.size) 1 _ _ _ HS.hx, cell_of_row _ (w2.heap.size) 2 _ _ _ HS.hx, cell_of_row _ (w2.heap.size) 3 _ _ _ HS.hx, cell_of_row _ (w2.heap.size + 1) 0 _ _ _ HS.hy, cell_of_row _ (w2.heap.size + 1) 1 _ _ _ HS.hy, cell_of_row _ (w2.heap.size + 1) 2 _ _ _ HS.hy, cell_of_row _ (w2.heap.size + 1) 3 _ _ _ HS.hy⟩) (fun hH => ?_)
                              clear hK K
                              (try simp only [Act.put, List.setIfInBounds_toArray, List.set_cons_zero, List.set_cons_succ])
                              show wpAnyH _ _ _ _ _ _ #[true, true, true, true, false, false, true, true, false, false] _ _
                              revert hH HS
                              revert w9
                              revert bb
                              revert ba
                              exact key211.out
                        · intro W HS hH
                          refine wpAnyH_ready (rs := [4, 6, 7]) (by kernel_rfl) (by simp) ?_
                          refine cons_at rfl (fun K hK => ?_) (cons_at rfl (fun K hK => ?_) (cons_at rfl (fun K hK => ?_) AllReadyH.nil))
                          · go_simp
                            go_at_call_of 28 s0
                            refine (HPY.out _).mono ?_
                            rintro e w9 ⟨rfl, hb⟩
                            (try go_wp2_with fail)
                            replace HS := HS.step hb
                            clear hb hH
                            refine hK.out _ _ (by exact ⟨cell_of_row _ (w2.heap.size) 0 _ _ _ HS.hx, cell_of_row _ (w2.heap.size) 1 _ _ _ HS.hx, cell_of_row _ (w2.heap.size) 2 _ _ _ HS.hx, cell_of_row _ (w2.heap.size) 3 _ _ _ HS.hx, cell_of_row _ (w2.heap.size + 1) 0 _ _ _ HS.hy, cell_of_row _ (w2.heap.size + 1) 1 _ _ _ HS.hy, cell_of_row _ (w2.heap.size + 1) 2 _ _ _ HS.hy, cell_of_row _ (w2.heap.size + 1) 3 _ _ _ HS.hy⟩) (fun hH => ?_)
                            clear hK K
                            (try simp only [Act.put, List.setIfInBounds_toArray, List.set_cons_zero, List.set_cons_succ])
                            show wpAnyH _ _ _ _ _ _ #[true, true, true, true, true, false, false, false, false, false] _ _
                            revert hH HS
                            revert w9
                            exact key300.out
                          · go_simp
                            replace HS := HS.allocA
                            clear hH
                            refine hK.out _ _ (by exact ⟨cell_of_row _ (w2.heap.size) 0 _ _ _ HS.hx, cell_of_row _ (w2.heap.size) 1 _ _ _ HS.hx, cell_of_row _ (w2.heap.size) 2 _ _ _ HS.hx, cell_of_row _ (w2.heap.size) 3 _ _ _ HS.hx, cell_of_row _ (w2.heap.size + 1) 0 _ _ _ HS.hy, cell_of_row _ (w2.heap.size + 1) 1 _ _ _ HS.hy, cell_of_row _ (w2.heap.size + 1) 2 _ _ _ HS.hy, cell_of_row _ (w2.heap.size + 1) 3 _ _ _ HS.hy⟩) (fun hH => ?_)
                            clear hK K
                            (try simp only [Act.put, List.setIfInBounds_toArray, List.set_cons_zero, List.set_cons_succ])
                            show wpAnyH _ _ _ _ _ _ #[true, true, true, true, false, false, true, false, false, false] _ _
                            exact key210.out _ _ HS hH
                          · go_simp
                            replace HS := HS.allocB
                            clear hH
                            refine hK.out _ _ (by exact ⟨cell_of_row _ (w2.heap.size) 0 _ _ _ HS.hx, cell_of_row _ (w2.heap.size) 1 _ _ _ HS.hx, cell_of_row _ (w2.heap.size) 2 _ _ _ HS.hx, cell_of_row _ (w2.heap.size) 3 _ _ _ HS.hx, cell_of_row _ (w2.heap.size + 1) 0 _ _ _ HS.hy, cell_of_row _ (w2.heap.size + 1) 1 _ _ _ HS.hy, cell_of_row _ (w2.heap.size + 1) 2 _ _ _ HS.hy, cell_of_row _ (w2.heap.size + 1) 3 _ _ _ HS.hy⟩) (fun hH => ?_)
                            clear hK K
                            (try simp only [Act.put, List.setIfInBounds_toArray, List.set_cons_zero, List.set_cons_succ])
                            show wpAnyH _ _ _ _ _ _ #[true, true, true, true, false, false, false, true, false, false] _ _
                            exact key201.out _ _ HS hH
                      · intro ba W HS hH
                        refine wpAnyH_ready (rs := [4, 7]) (by kernel_rfl) (by simp) ?_
                        refine cons_at rfl (fun K hK => ?_) (cons_at rfl (fun K hK => ?_) AllReadyH.nil)
                        · go_simp
                          go_at_call_of 28 s0
                          refine (HPY.out _).mono ?_
                          rintro e w9 ⟨rfl, hb⟩
                          (try go_wp2_with fail)
                          replace HS := HS.step hb
                          clear hb hH
                          refine hK.out _ _ (by exact ⟨cell_of_row _ (w2.heap.size) 0 _ _ _ HS.hx, cell_of_row _ (w2.heap.size) 1 _ _ _ HS.hx, cell_of_row _ (w2.heap.size) 2 _ _ _ HS.hx, cell_of_row _ (w2.heap.size) 3 _ _ _ HS.hx, cell_of_row _ (w2.heap.size + 1) 0 _ _ _ HS.hy, cell_of_row _ (w2.heap.size + 1) 1 _ _ _ HS.hy, cell_of_row _ (w2.heap.size + 1) 2 _ _ _ HS.hy, cell_of_row _ (w2.heap.size + 1) 3 _ _ _ HS.hy⟩) (fun hH => ?_)
                          clear hK K
                          (try simp only [Act.put, List.setIfInBounds_toArray, List.set_cons_zero, List.set_cons_succ])
                          show wpAnyH _ _ _ _ _ _ #[true, true, true, true, true, false, true, false, false, false] _ _
                          revert hH HS
                          revert w9
                          revert ba
                          exact key310.out
                        · go_simp
                          replace HS := HS.allocB
                          clear hH
                          refine hK.out _ _ (by exact ⟨cell_of_row _ (w2.heap.size) 0 _ _ _ HS.hx, cell_of_row _ (w2.heap.size) 1 _ _ _ HS.hx, cell_of_row _ (w2.heap.size) 2 _ _ _ HS.hx, cell_of_row _ (w2.heap.size) 3 _ _ _ HS.hx, cell_of_row _ (w2.heap.size + 1) 0 _ _ _ HS.hy, cell_of_row _ (w2.heap.size + 1) 1 _ _ _ HS.hy, cell_of_row _ (w2.heap.size + 1) 2 _ _ _ HS.hy, cell_of_row _ (w2.heap.size + 1) 3 _ _ _ HS.hy⟩) (fun hH => ?_)
                          clear hK K
                          (try simp only [Act.put, List.setIfInBounds_toArray, List.set_cons_zero, List.set_cons_succ])
                          show wpAnyH _ _ _ _ _ _ #[true, true, true, true, false, false, true, true, false, false] _ _
                          exact key211.out _ _ _ HS hH
                    · intro bb W HS hH
                      refine wpAnyH_ready (rs := [4, 6]) (by kernel_rfl) (by simp) ?_
                      refine cons_at rfl (fun K hK => ?_) (cons_at rfl (fun K hK => ?_) AllReadyH.nil)
                      · go_simp
                        go_at_call_of 28 s0
                        refine (HPY.out _).mono ?_
                        rintro e w9 ⟨rfl, hb⟩
                        (try go_wp2_with fail)
                        replace HS := HS.step hb
                        clear hb hH
                        refine hK.out _ _ (by exact ⟨cell_of_row _ (w2.heap.size) 0 _ _ _ HS.hx, cell_of_row _ (w2.heap.size) 1 _ _ _ HS.hx, cell_of_row _ (w2.heap.size) 2 _ _ _ HS.hx, cell_of_row _ (w2.heap.size) 3 _ _ _ HS.hx, cell_of_row _ (w2.heap.size + 1) 0 _ _ _ HS.hy, cell_of_row _ (w2.heap.size + 1) 1 _ _ _ HS.hy, cell_of_row _ (w2.heap.size + 1) 2 _ _ _ HS.hy, cell_of_row _ (w2.heap.size + 1) 3 _ _ _ HS.hy⟩) (fun hH => ?_)
                        clear hK K
                        (try simp only [Act.put, List.setIfInBounds_toArray, List.set_cons_zero, List.set_cons_succ])
                        show wpAnyH _ _ _ _ _ _ #[true, true, true, true, true, false, false, true, false, false] _ _
                        revert hH HS
                        revert w9
                        revert bb
                        exact key301.out
                      · go_simp
                        replace HS := HS.allocA
                        clear hH
                        refine hK.out _ _ (by exact ⟨cell_of_row _ (w2.heap.size) 0 _ _ _ HS.hx, cell_of_row _ (w2.heap.size) 1 _ _ _ HS.hx, cell_of_row _ (w2.heap.size) 2 _ _ _ HS.hx, cell_of_row _ (w2.heap.size) 3 _ _ _ HS.hx, cell_of_row _ (w2.heap.size + 1) 0 _ _ _ HS.hy, cell_of_row _ (w2.heap.size + 1) 1 _ _ _ HS.hy, cell_of_row _ (w2.heap.size + 1) 2 _ _ _ HS.hy, cell_of_row _ (w2.heap.size + 1) 3 _ _ _ HS.hy⟩) (fun hH => ?_)
                        clear hK K
                        (try simp only [Act.put, List.setIfInBounds_toArray, List.set_cons_zero, List.set_cons_succ])
                        show wpAnyH _ _ _ _ _ _ #[true, true, true, true, false, false, true, true, false, false] _ _
                        exact key211.out _ _ _ HS hH
                  · intro ba bb W HS hH
                    refine wpAnyH_ready (rs := [4]) (by kernel_rfl) (by simp) ?_
                    refine cons_at rfl (fun K hK => ?_) AllReadyH.nil
                    · go_simp
                      go_at_call_of 28 s0
                      refine (HPY.out _).mono ?_
                      rintro e w9 ⟨rfl, hb⟩
                      (try go_wp2_with fail)
                      replace HS := HS.step hb
                      clear hb hH
                      refine hK.out _ _ (by exact ⟨cell_of_row _ (w2.heap.size) 0 _ _ _ HS.hx, cell_of_row _ (w2.heap.size) 1 _ _ _ HS.hx, cell_of_row _ (w2.heap.size) 2 _ _ _ HS.hx, cell_of_row _ (w2.heap.size) 3 _ _ _ HS.hx, cell_of_row _ (w2.heap.size + 1) 0 _ _ _ HS.hy, cell_of_row _ (w2.heap.size + 1) 1 _ _ _ HS.hy, cell_of_row _ (w2.heap.size + 1) 2 _ _ _ HS.hy, cell_of_row _ (w2.heap.size + 1) 3 _ _ _ HS.hy⟩) (fun hH => ?_)
                      clear hK K
                      (try simp only [Act.put, List.setIfInBounds_toArray, List.set_cons_zero, List.set_cons_succ])
                      show wpAnyH _ _ _ _ _ _ #[true, true, true, true, true, false, true, true, false, false] _ _
                      revert hH HS
                      revert w9
                      revert bb
                      revert ba
                      exact key311.out
                · intro W HS hH
                  refine wpAnyH_ready (rs := [5, 6, 7]) (by kernel_rfl) (by simp) ?_
                  refine cons_at rfl (fun K hK => ?_) (cons_at rfl (fun K hK => ?_) (cons_at rfl (fun K hK => ?_) AllReadyH.nil))
                  · go_simp
                    go_at_call_of 30 py
                    refine (HSY.out _).mono ?_
                    rintro e w9 ⟨rfl, hb⟩
                    (try go_wp2_with fail)
                    replace HS := HS.step hb
                    clear hb hH
                    refine hK.out _ _ (by exact ⟨cell_of_row _ (w2.heap.size) 0 _ _ _ HS.hx, cell_of_row _ (w2.heap.size) 1 _ _ _ HS.hx, cell_of_row _ (w2.heap.size) 2 _ _ _ HS.hx, cell_of_row _ (w2.heap.size) 3 _ _ _ HS.hx, cell_of_row _ (w2.heap.size + 1) 0 _ _ _ HS.hy, cell_of_row _ (w2.heap.size + 1) 1 _ _ _ HS.hy, cell_of_row _ (w2.heap.size + 1) 2 _ _ _ HS.hy, cell_of_row _ (w2.heap.size + 1) 3 _ _ _ HS.hy⟩) (fun hH => ?_)
                    clear hK K
                    (try simp only [Act.put, List.setIfInBounds_toArray, List.set_cons_zero, List.set_cons_succ])
                    show wpAnyH _ _ _ _ _ _ #[true, true, true, true, true, true, false, false, false, false] _ _
                    revert hH HS
                    revert w9
                    exact key400.out
                  · go_simp
                    replace HS := HS.allocA
                    clear hH
                    refine hK.out _ _ (by exact ⟨cell_of_row _ (w2.heap.size) 0 _ _ _ HS.hx, cell_of_row _ (w2.heap.size) 1 _ _ _ HS.hx, cell_of_row _ (w2.heap.size) 2 _ _ _ HS.hx, cell_of_row _ (w2.heap.size) 3 _ _ _ HS.hx, cell_of_row _ (w2.heap.size + 1) 0 _ _ _ HS.hy, cell_of_row _ (w2.heap.size + 1) 1 _ _ _ HS.hy, cell_of_row _ (w2.heap.size + 1) 2 _ _ _ HS.hy, cell_of_row _ (w2.heap.size + 1) 3 _ _ _ HS.hy⟩) (fun hH => ?_)
                    clear hK K
                    (try simp only [Act.put, List.setIfInBounds_toArray, List.set_cons_zero, List.set_cons_succ])
                    show wpAnyH _ _ _ _ _ _ #[true, true, true, true, true, false, true, false, false, false] _ _
                    exact key310.out _ _ HS hH
                  · go_simp
                    replace HS := HS.allocB
                    clear hH
                    refine hK.out _ _ (by exact ⟨cell_of_row _ (w2.heap.size) 0 _ _ _ HS.hx, cell_of_row _ (w2.heap.size) 1 _ _ _ HS.hx, cell_of_row _ (w2.heap.size) 2 _ _ _ HS.hx, cell_of_row _ (w2.heap.size) 3 _ _ _ HS.hx, cell_of_row _ (w2.heap.size + 1) 0 _ _ _ HS.hy, cell_of_row _ (w2.heap.size + 1) 1 _ _ _ HS.hy, cell_of_row _ (w2.heap.size + 1) 2 _ _ _ HS.hy, cell_of_row _ (w2.heap.size + 1) 3 _ _ _ HS.hy⟩) (fun hH => ?_)
                    clear hK K
                    (try simp only [Act.put, List.setIfInBounds_toArray, List.set_cons_zero, List.set_cons_succ])
                    show wpAnyH _ _ _ _ _ _ #[true, true, true, true, true, false, false, true, false, false] _ _
                    exact key301.out _ _ HS hH
              · intro ba W HS hH
                refine wpAnyH_ready (rs := [5, 7]) (by kernel_rfl) (by simp) ?_
                refine cons_at rfl (fun K hK => ?_) (cons_at rfl (fun K hK => ?_) AllReadyH.nil)
                · go_simp
                  go_at_call_of 30 py
                  refine (HSY.out _).mono ?_
                  rintro e w9 ⟨rfl, hb⟩
                  (try go_wp2_with fail)
                  replace HS := HS.step hb
                  clear hb hH
                  refine hK.out _ _ (by exact ⟨cell_of_row _ (w2.heap.size) 0 _ _ _ HS.hx, cell_of_row _ (w2.heap.size) 1 _ _ _ HS.hx, cell_of_row _ (w2.heap.size) 2 _ _ _ HS.hx, cell_of_row _ (w2.heap.size) 3 _ _ _ HS.hx, cell_of_row _ (w2.heap.size + 1) 0 _ _ _ HS.hy, cell_of_row _ (w2.heap.size + 1) 1 _ _ _ HS.hy, cell_of_row _ (w2.heap.size + 1) 2 _ _ _ HS.hy, cell_of_row _ (w2.heap.size + 1) 3 _ _ _ HS.hy⟩) (fun hH => ?_)
                  clear hK K
                  (try simp only [Act.put, List.setIfInBounds_toArray, List.set_cons_zero, List.set_cons_succ])
                  show wpAnyH _ _ _ _ _ _ #[true, true, true, true, true, true, true, false, false, false] _ _
                  revert hH HS
                  revert w9
                  revert ba
                  exact key410.out
                · go_simp
                  replace HS := HS.allocB
                  clear hH
                  refine hK.out _ _ (by exact ⟨cell_of_row _ (w2.heap.size) 0 _ _ _ HS.hx, cell_of_row _ (w2.heap.size) 1 _ _ _ HS.hx, cell_of_row _ (w2.heap.size) 2 _ _ _ HS.hx, cell_of_row _ (w2.heap.size) 3 _ _ _ HS.hx, cell_of_row _ (w2.heap.size + 1) 0 _ _ _ HS.hy, cell_of_row _ (w2.heap.size + 1) 1 _ _ _ HS.hy, cell_of_row _ (w2.heap.size + 1) 2 _ _ _ HS.hy, cell_of_row _ (w2.heap.size + 1) 3 _ _ _ HS.hy⟩) (fun hH => ?_)
                  clear hK K
                  (try simp only [Act.put, List.setIfInBounds_toArray, List.set_cons_zero, List.set_cons_succ])
                  show wpAnyH _ _ _ _ _ _ #[true, true, true, true, true, false, true, true, false, false] _ _
                  exact key311.out _ _ _ HS hH
            · intro bb W HS hH
              refine wpAnyH_ready (rs := [5, 6]) (by kernel_rfl) (by simp) ?_
              refine cons_at rfl (fun K hK => ?_) (cons_at rfl (fun K hK => ?_) AllReadyH.nil)
              · go_simp
                go_at_call_of 30 py
                refine (HSY.out _).mono ?_
                rintro e w9 ⟨rfl, hb⟩
                (try go_wp2_with fail)
                replace HS := HS.step hb
                clear hb hH
                refine hK.out _ _ (by exact ⟨cell_of_row _ (w2.heap.size) 0 _ _ _ HS.hx, cell_of_row _ (w2.heap.size) 1 _ _ _ HS.hx, cell_of_row _ (w2.heap.size) 2 _ _ _ HS.hx, cell_of_row _ (w2.heap.size) 3 _ _ _ HS.hx, cell_of_row _ (w2.heap.size + 1) 0 _ _ _ HS.hy, cell_of_row _ (w2.heap.size + 1) 1 _ _ _ HS.hy, cell_of_row _ (w2.heap.size + 1) 2 _ _ _ HS.hy, cell_of_row _ (w2.heap.size + 1) 3 _ _ _ HS.hy⟩) (fun hH => ?_)
                clear hK K
                (try simp only [Act.put, List.setIfInBounds_toArray, List.set_cons_zero, List.set_cons_succ])
                show wpAnyH _ _ _ _ _ _ #[true, true, true, true, true, true, false, true, false, false] _ _
                revert hH HS
                revert w9
                revert bb
                exact key401.out
              · go_simp
                replace HS := HS.allocA
                clear hH
                refine hK.out _ _ (by exact ⟨cell_of_row _ (w2.heap.size) 0 _ _ _ HS.hx, cell_of_row _ (w2.heap.size) 1 _ _ _ HS.hx, cell_of_row _ (w2.heap.size) 2 _ _ _ HS.hx, cell_of_row _ (w2.heap.size) 3 _ _ _ HS.hx, cell_of_row _ (w2.heap.size + 1) 0 _ _ _ HS.hy, cell_of_row _ (w2.heap.size + 1) 1 _ _ _ HS.hy, cell_of_row _ (w2.heap.size + 1) 2 _ _ _ HS.hy, cell_of_row _ (w2.heap.size + 1) 3 _ _ _ HS.hy⟩) (fun hH => ?_)
                clear hK K
                (try simp only [Act.put, List.setIfInBounds_toArray, List.set_cons_zero, List.set_cons_succ])
                show wpAnyH _ _ _ _ _ _ #[true, true, true, true, true, false, true, true, false, false] _ _
                exact key311.out _ _ _ HS hH
          · intro ba bb W HS hH
            refine wpAnyH_ready (rs := [5]) (by kernel_rfl) (by simp) ?_
            refine cons_at rfl (fun K hK => ?_) AllReadyH.nil
            · go_simp
              go_at_call_of 30 py
              refine (HSY.out _).mono ?_
              rintro e w9 ⟨rfl, hb⟩
              (try go_wp2_with fail)
              replace HS := HS.step hb
              clear hb hH
              refine hK.out _ _ (by exact ⟨cell_of_row _ (w2.heap.size) 0 _ _ _ HS.hx, cell_of_row _ (w2.heap.size) 1 _ _ _ HS.hx, cell_of_row _ (w2.heap.size) 2 _ _ _ HS.hx, cell_of_row _ (w2.heap.size) 3 _ _ _ HS.hx, cell_of_row _ (w2.heap.size + 1) 0 _ _ _ HS.hy, cell_of_row _ (w2.heap.size + 1) 1 _ _ _ HS.hy, cell_of_row _ (w2.heap.size + 1) 2 _ _ _ HS.hy, cell_of_row _ (w2.heap.size + 1) 3 _ _ _ HS.hy⟩) (fun hH => ?_)
              clear hK K
              (try simp only [Act.put, List.setIfInBounds_toArray, List.set_cons_zero, List.set_cons_succ])
              show wpAnyH _ _ _ _ _ _ #[true, true, true, true, true, true, true, true, false, false] _ _
              revert hH HS
              revert w9
              revert bb
              revert ba
              exact key411.out
        · intro W HS hH
          refine wpAnyH_ready (rs := [6, 7]) (by kernel_rfl) (by simp) ?_
          refine cons_at rfl (fun K hK => ?_) (cons_at rfl (fun K hK => ?_) AllReadyH.nil)
          · go_simp
            replace HS := HS.allocA
            clear hH
            refine hK.out _ _ (by exact ⟨cell_of_row _ (w2.heap.size) 0 _ _ _ HS.hx, cell_of_row _ (w2.heap.size) 1 _ _ _ HS.hx, cell_of_row _ (w2.heap.size) 2 _ _ _ HS.hx, cell_of_row _ (w2.heap.size) 3 _ _ _ HS.hx, cell_of_row _ (w2.heap.size + 1) 0 _ _ _ HS.hy, cell_of_row _ (w2.heap.size + 1) 1 _ _ _ HS.hy, cell_of_row _ (w2.heap.size + 1) 2 _ _ _ HS.hy, cell_of_row _ (w2.heap.size + 1) 3 _ _ _ HS.hy⟩) (fun hH => ?_)
            clear hK K
            (try simp only [Act.put, List.setIfInBounds_toArray, List.set_cons_zero, List.set_cons_succ])
            show wpAnyH _ _ _ _ _ _ #[true, true, true, true, true, true, true, false, false, false] _ _
            exact key410.out _ _ HS hH
          · go_simp
            replace HS := HS.allocB
            clear hH
            refine hK.out _ _ (by exact ⟨cell_of_row _ (w2.heap.size) 0 _ _ _ HS.hx, cell_of_row _ (w2.heap.size) 1 _ _ _ HS.hx, cell_of_row _ (w2.heap.size) 2 _ _ _ HS.hx, cell_of_row _ (w2.heap.size) 3 _ _ _ HS.hx, cell_of_row _ (w2.heap.size + 1) 0 _ _ _ HS.hy, cell_of_row _ (w2.heap.size + 1) 1 _ _ _ HS.hy, cell_of_row _ (w2.heap.size + 1) 2 _ _ _ HS.hy, cell_of_row _ (w2.heap.size + 1) 3 _ _ _ HS.hy⟩) (fun hH => ?_)
            clear hK K
            (try simp only [Act.put, List.setIfInBounds_toArray, List.set_cons_zero, List.set_cons_succ])
            show wpAnyH _ _ _ _ _ _ #[true, true, true, true, true, true, false, true, false, false] _ _
            exact key401.out _ _ HS hH
      · intro ba W HS hH
        refine wpAnyH_ready (rs := [7]) (by kernel_rfl) (by simp) ?_
        refine cons_at rfl (fun K hK => ?_) AllReadyH.nil
        · go_simp
          replace HS := HS.allocB
          clear hH
          refine hK.out _ _ (by exact ⟨cell_of_row _ (w2.heap.size) 0 _ _ _ HS.hx, cell_of_row _ (w2.heap.size) 1 _ _ _ HS.hx, cell_of_row _ (w2.heap.size) 2 _ _ _ HS.hx, cell_of_row _ (w2.heap.size) 3 _ _ _ HS.hx, cell_of_row _ (w2.heap.size + 1) 0 _ _ _ HS.hy, cell_of_row _ (w2.heap.size + 1) 1 _ _ _ HS.hy, cell_of_row _ (w2.heap.size + 1) 2 _ _ _ HS.hy, cell_of_row _ (w2.heap.size + 1) 3 _ _ _ HS.hy⟩) (fun hH => ?_)
          clear hK K
          (try simp only [Act.put, List.setIfInBounds_toArray, List.set_cons_zero, List.set_cons_succ])
          show wpAnyH _ _ _ _ _ _ #[true, true, true, true, true, true, true, true, false, false] _ _
          exact key411.out _ _ _ HS hH
    · intro bb W HS hH
      refine wpAnyH_ready (rs := [6]) (by kernel_rfl) (by simp) ?_
      refine cons_at rfl (fun K hK => ?_) AllReadyH.nil
      · go_simp
        replace HS := HS.allocA
        clear hH
        refine hK.out _ _ (by exact ⟨cell_of_row _ (w2.heap.size) 0 _ _ _ HS.hx, cell_of_row _ (w2.heap.size) 1 _ _ _ HS.hx, cell_of_row _ (w2.heap.size) 2 _ _ _ HS.hx, cell_of_row _ (w2.heap.size) 3 _ _ _ HS.hx, cell_of_row _ (w2.heap.size + 1) 0 _ _ _ HS.hy, cell_of_row _ (w2.heap.size + 1) 1 _ _ _ HS.hy, cell_of_row _ (w2.heap.size + 1) 2 _ _ _ HS.hy, cell_of_row _ (w2.heap.size + 1) 3 _ _ _ HS.hy⟩) (fun hH => ?_)
        clear hK K
        (try simp only [Act.put, List.setIfInBounds_toArray, List.set_cons_zero, List.set_cons_succ])
        show wpAnyH _ _ _ _ _ _ #[true, true, true, true, true, true, true, true, false, false] _ _
        exact key411.out _ _ _ HS hH
  · intro ba bb W HS hH
    obtain ⟨hA, na0⟩ := HS.ha ba rfl
    obtain ⟨hBb, nb0⟩ := HS.hb bb rfl
    have nab := HS.ne ba bb rfl rfl
    have hx := HS.hx
    have hy := HS.hy
    have hB := HS.B
    have hg := HS.s
    have nba : w2.heap.size ≠ ba ∧ w2.heap.size + 1 ≠ ba := by omega
    have nbb : w2.heap.size ≠ bb ∧ w2.heap.size + 1 ≠ bb := by omega
    have cba : w.heap.size ≤ ba := by omega
    have cbb : w.heap.size ≤ bb := by omega
    clear HS na0 nb0
    have za0 := cell_of_row _ ba 0 _ _ _ hA
    have fa0 := frozen_of 0 hA
    have za1 := cell_of_row _ ba 1 _ _ _ hA
    have fa1 := frozen_of 1 hA
    have za2 := cell_of_row _ ba 2 _ _ _ hA
    have fa2 := frozen_of 2 hA
    have za3 := cell_of_row _ ba 3 _ _ _ hA
    have fa3 := frozen_of 3 hA
    refine wpAnyH_ready (rs := [8]) (by kernel_rfl) (by simp) ?_
    refine cons_at rfl (fun K hK => ?_) AllReadyH.nil
    go_simp
    clear hH za0 za1 za2 za3 fa0 fa1 fa2 fa3
    replace hx := (put4_far (W := W) (n := ba) nba.1 (.int .i64 x0) (.int .i64 x1) (.int .i64 x2) (.int .i64 x3)).trans hx
    replace hy := (put4_far (W := W) (n := ba) nba.2 (.int .i64 x0) (.int .i64 x1) (.int .i64 x2) (.int .i64 x3)).trans hy
    replace hBb := (put4_far (W := W) (n := ba) (Ne.symm nab) (.int .i64 x0) (.int .i64 x1) (.int .i64 x2) (.int .i64 x3)).trans hBb
    replace hA := put4_self hA (.int .i64 x0) (.int .i64 x1) (.int .i64 x2) (.int .i64 x3)
    replace hB := put4_below (n := ba) hB cba (.int .i64 x0) (.int .i64 x1) (.int .i64 x2) (.int .i64 x3)
    refine hK.out _ _ (by exact ⟨cell_of_row _ (w2.heap.size) 0 _ _ _ hx, cell_of_row _ (w2.heap.size) 1 _ _ _ hx, cell_of_row _ (w2.heap.size) 2 _ _ _ hx, cell_of_row _ (w2.heap.size) 3 _ _ _ hx, cell_of_row _ (w2.heap.size + 1) 0 _ _ _ hy, cell_of_row _ (w2.heap.size + 1) 1 _ _ _ hy, cell_of_row _ (w2.heap.size + 1) 2 _ _ _ hy, cell_of_row _ (w2.heap.size + 1) 3 _ _ _ hy⟩) (fun hH => ?_)
    clear hK K
    (try simp only [Act.put, List.setIfInBounds_toArray, List.set_cons_zero, List.set_cons_succ])
    generalize (((W.setCell ⟨ba, 0, none⟩ (.int .i64 x0)).setCell ⟨ba, 1, none⟩ (.int .i64 x1)).setCell ⟨ba, 2, none⟩ (.int .i64 x2)).setCell ⟨ba, 3, none⟩ (.int .i64 x3) = W8 at hx hy hA hBb hB hH ⊢
    have za0 := cell_of_row _ bb 0 _ _ _ hBb
    have fa0 := frozen_of 0 hBb
    have za1 := cell_of_row _ bb 1 _ _ _ hBb
    have fa1 := frozen_of 1 hBb
    have za2 := cell_of_row _ bb 2 _ _ _ hBb
    have fa2 := frozen_of 2 hBb
    have za3 := cell_of_row _ bb 3 _ _ _ hBb
    have fa3 := frozen_of 3 hBb
    refine wpAnyH_ready (rs := [9]) (by kernel_rfl) (by simp) ?_
    refine cons_at rfl (fun K hK => ?_) AllReadyH.nil
    go_simp
    clear hH za0 za1 za2 za3 fa0 fa1 fa2 fa3
    replace hx := (put4_far (W := W8) (n := bb) nbb.1 (.int .i64 s0) (.int .i64 x1) (.int .i64 x2) (.int .i64 v0)).trans hx
    replace hy := (put4_far (W := W8) (n := bb) nbb.2 (.int .i64 s0) (.int .i64 x1) (.int .i64 x2) (.int .i64 v0)).trans hy
    replace hA := (put4_far (W := W8) (n := bb) nab (.int .i64 s0) (.int .i64 x1) (.int .i64 x2) (.int .i64 v0)).trans hA
    replace hBb := put4_self hBb (.int .i64 s0) (.int .i64 x1) (.int .i64 x2) (.int .i64 v0)
    replace hB := put4_below (n := bb) hB cbb (.int .i64 s0) (.int .i64 x1) (.int .i64 x2) (.int .i64 v0)
    refine hK.out _ _ (by exact ⟨cell_of_row _ (w2.heap.size) 0 _ _ _ hx, cell_of_row _ (w2.heap.size) 1 _ _ _ hx, cell_of_row _ (w2.heap.size) 2 _ _ _ hx, cell_of_row _ (w2.heap.size) 3 _ _ _ hx, cell_of_row _ (w2.heap.size + 1) 0 _ _ _ hy, cell_of_row _ (w2.heap.size + 1) 1 _ _ _ hy, cell_of_row _ (w2.heap.size + 1) 2 _ _ _ hy, cell_of_row _ (w2.heap.size + 1) 3 _ _ _ hy⟩) (fun hH => ?_)
    clear hK K
    (try simp only [Act.put, List.setIfInBounds_toArray, List.set_cons_zero, List.set_cons_succ])
    generalize (((W8.setCell ⟨bb, 0, none⟩ (.int .i64 s0)).setCell ⟨bb, 1, none⟩ (.int .i64 x1)).setCell ⟨bb, 2, none⟩ (.int .i64 x2)).setCell ⟨bb, 3, none⟩ (.int .i64 v0) = W9 at hx hy hA hBb hB hH ⊢
    refine wpAnyH_done (by kernel_rfl) ?_ _
    refine NoPanic.normal ?_
    clear hH
    go_wp2_with fail
    refine (awake1_any _).mono ?_
    rintro e w8 ⟨rfl, hb8⟩
    replace hx := (hb8.block _ (lt_of_heap1 hx)).trans hx
    replace hy := (hb8.block _ (lt_of_heap1 hy)).trans hy
    replace hA := (hb8.block _ (lt_of_heap1 hA)).trans hA
    replace hBb := (hb8.block _ (lt_of_heap1 hBb)).trans hBb
    replace hB := hB.trans (hb8.mono hB.size)
    have rhx0 := cell_of_row _ (w2.heap.size) 0 _ _ _ hx
    have rhx1 := cell_of_row _ (w2.heap.size) 1 _ _ _ hx
    have rhx2 := cell_of_row _ (w2.heap.size) 2 _ _ _ hx
    have rhx3 := cell_of_row _ (w2.heap.size) 3 _ _ _ hx
    have rhy0 := cell_of_row _ (w2.heap.size + 1) 0 _ _ _ hy
    have rhy1 := cell_of_row _ (w2.heap.size + 1) 1 _ _ _ hy
    have rhy2 := cell_of_row _ (w2.heap.size + 1) 2 _ _ _ hy
    have rhy3 := cell_of_row _ (w2.heap.size + 1) 3 _ _ _ hy
    have rhTry := cell_of_row _ (ba) 0 _ _ _ hA
    have rhA1 := cell_of_row _ (ba) 1 _ _ _ hA
    have rhA2 := cell_of_row _ (ba) 2 _ _ _ hA
    have rhA3 := cell_of_row _ (ba) 3 _ _ _ hA
    have rhBb0 := cell_of_row _ (bb) 0 _ _ _ hBb
    have rhBb1 := cell_of_row _ (bb) 1 _ _ _ hBb
    have rhBb2 := cell_of_row _ (bb) 2 _ _ _ hBb
    have rhBb3 := cell_of_row _ (bb) 3 _ _ _ hBb
    clear hb8
    go_wp2
    go_ret
    exact ⟨rfl, hB⟩
end Go.Proofs.Ytnpjfdiapoghnaa
