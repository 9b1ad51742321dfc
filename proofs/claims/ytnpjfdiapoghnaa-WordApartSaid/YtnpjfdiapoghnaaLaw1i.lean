/- Layer 1's statement WordApart: the walk. -/
import Derived.Test.YtnpjfdiapoghnaaLaw1h
namespace Go.Proofs.Ytnpjfdiapoghnaa
open Go Go.RowKit

def KPa (w : World) (o1 o2 : Obj) (n : Nat) (o : Obj) : Prop := (n = w.heap.size ∧ o = o1) ∨ (n = w.heap.size + 1 ∧ o = o2)
def KPb (K : Nat → Obj → Prop) (n1 : Nat) (o1 : Obj) (n2 : Nat) (o2 : Obj) (n : Nat) (o : Obj) : Prop := K n o ∨ (n = n1 ∧ o = o1) ∨ (n = n2 ∧ o = o2)
/-- What stays, and the new boxes a and b, as far as they are made. -/
structure GSt (w : World) (KP : Nat → Obj → Prop) (Z : Nat × Nat → Obj) (W : World) (a b : Option Nat) : Prop where
  kp : ∀ n o, KP n o → W.heap[n]? = some o
  B : Below w.heap.size w W
  ha : ∀ n, a = some n → W.heap[n]? = some (Z (0, 0)) ∧ w.heap.size ≤ n ∧ ∀ k o, KP k o → k ≠ n
  hb : ∀ n, b = some n → W.heap[n]? = some (Z (0, 0)) ∧ w.heap.size ≤ n ∧ ∀ k o, KP k o → k ≠ n
  ne : ∀ n k, a = some n → b = some k → n ≠ k
section
variable {w W W' : World} {KP : Nat → Obj → Prop} {Z : Nat × Nat → Obj} {a b : Option Nat}
theorem GSt.start (kp : ∀ n o, KP n o → W.heap[n]? = some o) (hB : Below w.heap.size w W) : GSt w KP Z W none none := ⟨kp, hB, fun _ e => (by cases e), fun _ e => (by cases e), fun _ _ e => (by cases e)⟩
theorem GSt.drew (h : GSt w KP Z W a b) : GSt w KP Z W.drew a b := ⟨h.kp, h.B.drew, h.ha, h.hb, h.ne⟩
theorem GSt.step (h : GSt w KP Z W a b) (k : Below W.heap.size W W') : GSt w KP Z W' a b :=
  ⟨fun n o e => (k.block _ (lt_of_heap1 (h.kp n o e))).trans (h.kp n o e), h.B.trans (k.mono h.B.size),
   fun n e => ⟨(k.block _ (lt_of_heap1 (h.ha n e).1)).trans (h.ha n e).1, (h.ha n e).2⟩, fun n e => ⟨(k.block _ (lt_of_heap1 (h.hb n e).1)).trans (h.hb n e).1, (h.hb n e).2⟩, h.ne⟩
theorem GSt.allocA (o1 : Obj) (ho : ∀ W : World, (W.alloc o1).heap[W.heap.size]? = some (Z (0, 0))) (h : GSt w KP Z W none b) : GSt w KP Z (W.alloc o1) (some W.heap.size) b := by
  have h2 := h.step (below_new W o1)
  have h3 := h.B.size
  exact ⟨h2.kp, h2.B, fun n e => by cases e; exact ⟨ho W, h3, fun k o e => by have := lt_of_heap1 (h.kp k o e); omega⟩, h2.hb, fun n k e1 e2 => by cases e1; have := lt_of_heap1 (h.hb k e2).1; omega⟩
theorem GSt.allocB (o1 : Obj) (ho : ∀ W : World, (W.alloc o1).heap[W.heap.size]? = some (Z (0, 0))) (h : GSt w KP Z W a none) : GSt w KP Z (W.alloc o1) a (some W.heap.size) := by
  have h2 := h.step (below_new W o1)
  have h3 := h.B.size
  exact ⟨h2.kp, h2.B, h2.ha, fun n e => by cases e; exact ⟨ho W, h3, fun k o e => by have := lt_of_heap1 (h.kp k o e); omega⟩, fun n k e1 e2 => by cases e2; have := lt_of_heap1 (h.ha n e1).1; omega⟩
end
theorem put5_far {W : World} {n k : Nat} (h : k ≠ n) (p q r s t : Value) : (((((W.setCell ⟨n, 0, none⟩ p).setCell ⟨n, 1, none⟩ q).setCell ⟨n, 2, none⟩ r).setCell ⟨n, 3, none⟩ s).setCell ⟨n, 4, none⟩ t).heap[k]? = W.heap[k]? :=
  (heap_set_far (p := ⟨n, 4, none⟩) t h).trans (put4_far h p q r s)
theorem put5_self {W : World} {n : Nat} {ty : TypeId} {a b c d e : Value} (h : W.heap[n]? = some (.cells #[a, b, c, d, e] ty (0, 0))) (p q r s t : Value) : (((((W.setCell ⟨n, 0, none⟩ p).setCell ⟨n, 1, none⟩ q).setCell ⟨n, 2, none⟩ r).setCell ⟨n, 3, none⟩ s).setCell ⟨n, 4, none⟩ t).heap[n]? = some (.cells #[p, q, r, s, t] ty (0, 0)) :=
  heap_set_self 4 t (heap_set_self 3 s (heap_set_self 2 r (heap_set_self 1 q (heap_set_self 0 p h))))
theorem put5_below {B : Nat} {w W : World} {n : Nat} (h : Below B w W) (hn : B ≤ n) (p q r s t : Value) : Below B w (((((W.setCell ⟨n, 0, none⟩ p).setCell ⟨n, 1, none⟩ q).setCell ⟨n, 2, none⟩ r).setCell ⟨n, 3, none⟩ s).setCell ⟨n, 4, none⟩ t) :=
  (put4_below h hn p q r s).setCell (p := ⟨n, 4, none⟩) hn t
/-- A slot that fits, out of any; its word. -/
theorem slot_one (a b c d : Int) (ha : a ≤ 9223372036854775807) (hb : b ≤ 9223372036854775807) (hc : c ≤ 9223372036854775807) (hd : d ≤ 9223372036854775807) :
    ∃ p x0 x1 x2 x3 q : Int, Hid (∀ w : World, Calls Try.prog 29 #[.agg #[.int .i64 a, .int .i64 b, .int .i64 c, .int .i64 d]] w fun e w' => e = .returned (.int .u64 p) ∧ Below w.heap.size w w') ∧
      Hid (∀ w : World, Calls Try.prog 31 #[.int .u64 p] w fun e w' => e = .returned (.agg #[.int .i64 x0, .int .i64 x1, .int .i64 x2, .int .i64 x3]) ∧ Below w.heap.size w w') ∧
      Hid (∀ w : World, Calls Try.prog 28 #[.agg #[.int .i64 x0, .int .i64 x1, .int .i64 x2, .int .i64 x3]] w fun e w' => e = .returned (.int .u64 q) ∧ Below w.heap.size w w') ∧
      Hid (q = x0 + x1 * 8 + x2 * 8388608 + x3 * 549755813888 ∧ 0 ≤ x0 ∧ x0 ≤ 7 ∧ 0 ≤ x1 ∧ x1 ≤ 1048575 ∧ 0 ≤ x2 ∧ x2 ≤ 65535 ∧ 0 ≤ x3 ∧ x3 ≤ 4194303) := by
  have hp := putSlot_bd a b c d
  have hR := fun w => RefSlot_any a b c d w ha hb hc hd
  generalize putSlot a b c d = p at hp hR
  obtain ⟨q, h1, _, h3⟩ := putSlot_in (p % 8) (p / 8 % 1048576) (p / 8388608 % 65536) (p / 549755813888 % 4194304) (by omega) (by omega) (by omega) (by omega) (by omega) (by omega) (by omega) (by omega)
  exact ⟨p, _, _, _, _, q, hR, fun w => GetSlot_at p _ _ _ _ w ⟨hp.1, hp.2, rfl, rfl, rfl, rfl⟩, h1, by show _ ∧ _; omega⟩
theorem head_one (a b c d : Int) (f : Bool) (ha : a ≤ 9223372036854775807) (hb : b ≤ 9223372036854775807) (hc : c ≤ 9223372036854775807) (hd : d ≤ 9223372036854775807) :
    ∃ (p x0 x1 x2 x3 : Int) (x4 : Bool) (q : Int), Hid (∀ w : World, Calls Try.prog 39 #[.agg #[.int .i64 a, .int .i64 b, .int .i64 c, .int .i64 d, .bool f]] w fun e w' => e = .returned (.int .u64 p) ∧ Below w.heap.size w w') ∧
      Hid (∀ w : World, Calls Try.prog 38 #[.int .u64 p] w fun e w' => e = .returned (.agg #[.int .i64 x0, .int .i64 x1, .int .i64 x2, .int .i64 x3, .bool x4]) ∧ Below w.heap.size w w') ∧
      Hid (∀ w : World, Calls Try.prog 40 #[.agg #[.int .i64 x0, .int .i64 x1, .int .i64 x2, .int .i64 x3, .bool x4]] w fun e w' => e = .returned (.int .u64 q) ∧ Below w.heap.size w w') ∧
      Hid (q = x0 + x1 * 4 + x2 * 262144 + x3 * 17179869184 + bit x4 * 1125899906842624 ∧ 0 ≤ x0 ∧ x0 ≤ 3 ∧ 0 ≤ x1 ∧ x1 ≤ 65535 ∧ 0 ≤ x2 ∧ x2 ≤ 65535 ∧ 0 ≤ x3 ∧ x3 ≤ 65535) := by
  have hp := putHead_bd a b c d f
  have hR := fun w => RefHead_any a b c d f w ha hb hc hd
  generalize putHead a b c d f = p at hp hR
  refine ⟨p, p % 4, p / 4 % 65536, p / 262144 % 65536, p / 17179869184 % 65536, (p / 1125899906842624 % 2 == 1), _, hR, fun w => GetHead_at p _ _ _ _ _ w ⟨hp.1, hp.2, rfl, rfl, rfl, rfl, rfl⟩, fun w => PutHead_any _ _ _ _ _ w, ?_⟩
  refine ⟨?_, by omega, by omega, by omega, by omega, by omega, by omega, by omega, by omega⟩
  unfold putHead
  rw [fitI_in (p % 4) 3 (by omega) (by omega), fitI_in (p / 4 % 65536) 65535 (by omega) (by omega), fitI_in (p / 262144 % 65536) 65535 (by omega) (by omega), fitI_in (p / 17179869184 % 65536) 65535 (by omega) (by omega)]
theorem slot_eq (x0 x1 x2 x3 y0 y1 y2 y3 p q : Int) (hp : Hid (p = x0 + x1 * 8 + x2 * 8388608 + x3 * 549755813888 ∧ 0 ≤ x0 ∧ x0 ≤ 7 ∧ 0 ≤ x1 ∧ x1 ≤ 1048575 ∧ 0 ≤ x2 ∧ x2 ≤ 65535 ∧ 0 ≤ x3 ∧ x3 ≤ 4194303)) (hq : Hid (q = y0 + y1 * 8 + y2 * 8388608 + y3 * 549755813888 ∧ 0 ≤ y0 ∧ y0 ≤ 7 ∧ 0 ≤ y1 ∧ y1 ≤ 1048575 ∧ 0 ≤ y2 ∧ y2 ≤ 65535 ∧ 0 ≤ y3 ∧ y3 ≤ 4194303)) :
    (p == q) = (x0 == y0 && (x1 == y1 && (x2 == y2 && x3 == y3))) := by
  have h1 := hp.out
  have h2 := hq.out
  rw [Bool.eq_iff_iff]
  simp only [beq_iff_eq, Bool.and_eq_true]
  omega
theorem head_eq (x0 x1 x2 x3 y0 y1 y2 y3 p q : Int) (x4 y4 : Bool) (hp : Hid (p = x0 + x1 * 4 + x2 * 262144 + x3 * 17179869184 + bit x4 * 1125899906842624 ∧ 0 ≤ x0 ∧ x0 ≤ 3 ∧ 0 ≤ x1 ∧ x1 ≤ 65535 ∧ 0 ≤ x2 ∧ x2 ≤ 65535 ∧ 0 ≤ x3 ∧ x3 ≤ 65535)) (hq : Hid (q = y0 + y1 * 4 + y2 * 262144 + y3 * 17179869184 + bit y4 * 1125899906842624 ∧ 0 ≤ y0 ∧ y0 ≤ 3 ∧ 0 ≤ y1 ∧ y1 ≤ 65535 ∧ 0 ≤ y2 ∧ y2 ≤ 65535 ∧ 0 ≤ y3 ∧ y3 ≤ 65535)) :
    (p == q) = (x0 == y0 && (x1 == y1 && (x2 == y2 && (x3 == y3 && x4 == y4)))) := by
  have h1 := hp.out
  have h2 := hq.out
  rw [Bool.eq_iff_iff]
  simp only [beq_iff_eq, Bool.and_eq_true]
  cases x4 <;> cases y4 <;> simp [bit] at h1 h2 ⊢ <;> omega

attribute [local go_sem high] eqSlot eqHead
set_option linter.unusedSimpArgs false in
set_option maxHeartbeats 8000000 in
set_option maxRecDepth 100000 in
theorem WordApart_any (a b c d a' b' c' d' k l m n : Int) (o : Bool) (k' l' m' n' : Int) (o' : Bool) (w : World) (g0 : a ≤ 9223372036854775807) (g1 : b ≤ 9223372036854775807) (g2 : c ≤ 9223372036854775807) (g3 : d ≤ 9223372036854775807) (g4 : a' ≤ 9223372036854775807) (g5 : b' ≤ 9223372036854775807) (g6 : c' ≤ 9223372036854775807) (g7 : d' ≤ 9223372036854775807) (g8 : k ≤ 9223372036854775807) (g9 : l ≤ 9223372036854775807) (g10 : m ≤ 9223372036854775807) (g11 : n ≤ 9223372036854775807) (g12 : k' ≤ 9223372036854775807) (g13 : l' ≤ 9223372036854775807) (g14 : m' ≤ 9223372036854775807) (g15 : n' ≤ 9223372036854775807) :
    Calls Try.prog 9 #[.agg #[.int .i64 a, .int .i64 b, .int .i64 c, .int .i64 d, .int .i64 a', .int .i64 b', .int .i64 c', .int .i64 d'], .agg #[.int .i64 k, .int .i64 l, .int .i64 m, .int .i64 n, .bool o, .int .i64 k', .int .i64 l', .int .i64 m', .int .i64 n', .bool o']] w fun e w' => e = .returned (.bool true) ∧ Below w.heap.size w w' := by
  obtain ⟨p1, x0, x1, x2, x3, px, R1, G1, P1, Q1⟩ := slot_one a b c d g0 g1 g2 g3
  obtain ⟨p2, y0, y1, y2, y3, py, R2, G2, P2, Q2⟩ := slot_one a' b' c' d' g4 g5 g6 g7
  obtain ⟨p3, u0, u1, u2, u3, u4, pu, R3, G3, P3, Q3⟩ := head_one k l m n o g8 g9 g10 g11
  obtain ⟨p4, v0, v1, v2, v3, v4, pv, R4, G4, P4, Q4⟩ := head_one k' l' m' n' o' g12 g13 g14 g15
  have es := slot_eq x0 x1 x2 x3 y0 y1 y2 y3 px py Q1 Q2
  have eh := head_eq u0 u1 u2 u3 v0 v1 v2 v3 pu pv u4 v4 Q3 Q4
  clear Q1 Q2 Q3 Q4 g0 g1 g2 g3 g4 g5 g6 g7 g8 g9 g10 g11 g12 g13 g14 g15
  go_enter Try.func9, Try.ntmps9
  go_wp2
  have h2 := heap_alloc_new (w.alloc (.cells #[.int .i64 a, .int .i64 b, .int .i64 c, .int .i64 d, .int .i64 a', .int .i64 b', .int .i64 c', .int .i64 d'] 48)) (.cells #[.int .i64 k, .int .i64 l, .int .i64 m, .int .i64 n, .bool o, .int .i64 k', .int .i64 l', .int .i64 m', .int .i64 n', .bool o'] 51)
  rw [show (w.alloc (.cells #[.int .i64 a, .int .i64 b, .int .i64 c, .int .i64 d, .int .i64 a', .int .i64 b', .int .i64 c', .int .i64 d'] 48)).heap.size = w.heap.size + 1 from by simp] at h2
  have HS0 : GSt w (KPa w (.cells #[.int .i64 a, .int .i64 b, .int .i64 c, .int .i64 d, .int .i64 a', .int .i64 b', .int .i64 c', .int .i64 d'] 48 (0, 0)) (.cells #[.int .i64 k, .int .i64 l, .int .i64 m, .int .i64 n, .bool o, .int .i64 k', .int .i64 l', .int .i64 m', .int .i64 n', .bool o'] 51 (0, 0))) (fun fr => .cells #[.int .i64 0, .int .i64 0, .int .i64 0, .int .i64 0] 33 fr) ((w.alloc (.cells #[.int .i64 a, .int .i64 b, .int .i64 c, .int .i64 d, .int .i64 a', .int .i64 b', .int .i64 c', .int .i64 d'] 48)).alloc (.cells #[.int .i64 k, .int .i64 l, .int .i64 m, .int .i64 n, .bool o, .int .i64 k', .int .i64 l', .int .i64 m', .int .i64 n', .bool o'] 51)).drew none none := by
    refine GSt.drew (GSt.start (fun n o e => ?_) ((below_new w (.cells #[.int .i64 a, .int .i64 b, .int .i64 c, .int .i64 d, .int .i64 a', .int .i64 b', .int .i64 c', .int .i64 d'] 48)).trans ((below_new _ (.cells #[.int .i64 k, .int .i64 l, .int .i64 m, .int .i64 n, .bool o, .int .i64 k', .int .i64 l', .int .i64 m', .int .i64 n', .bool o'] 51)).mono (by simp))))
    rcases e with ⟨rfl, rfl⟩ | ⟨rfl, rfl⟩
    · rw [Below.heap_alloc _ _ _ (by simp)]; exact heap_alloc_new w _
    · exact h2
  clear h2
  generalize (w.alloc (.cells #[.int .i64 a, .int .i64 b, .int .i64 c, .int .i64 d, .int .i64 a', .int .i64 b', .int .i64 c', .int .i64 d'] 48)).alloc (.cells #[.int .i64 k, .int .i64 l, .int .i64 m, .int .i64 n, .bool o, .int .i64 k', .int .i64 l', .int .i64 m', .int .i64 n', .bool o'] 51) = W40 at HS0 ⊢
  apply cutW
  · intro keyp411
    apply cutW
    · intro keyp401
      apply cutW
      · intro keyp410
        apply cutW
        · intro keyp400
          apply cutW
          · intro keyp311
            apply cutW
            · intro keyp301
              apply cutW
              · intro keyp310
                apply cutW
                · intro keyp300
                  apply cutW
                  · intro keyp211
                    apply cutW
                    · intro keyp201
                      apply cutW
                      · intro keyp210
                        apply cutW
                        · intro keyp200
                          apply cutW
                          · intro keyp111
                            apply cutW
                            · intro keyp101
                              apply cutW
                              · intro keyp110
                                apply cutW
                                · intro keyp100
                                  apply cutW
                                  · intro keyp011
                                    apply cutW
                                    · intro keyp001
                                      apply cutW
                                      · intro keyp010
                                        apply cutW
                                        · intro keyp000
                                          have HS := HS0
                                          refine wp_region_noPanic ?_
                                          refine wp_region_held_drew (S := (fun w' => w'.cell? ⟨w.heap.size, 0, none⟩ = some (.int .i64 a) ∧ w'.cell? ⟨w.heap.size, 1, none⟩ = some (.int .i64 b) ∧ w'.cell? ⟨w.heap.size, 2, none⟩ = some (.int .i64 c) ∧ w'.cell? ⟨w.heap.size, 3, none⟩ = some (.int .i64 d) ∧ w'.cell? ⟨w.heap.size, 4, none⟩ = some (.int .i64 a') ∧ w'.cell? ⟨w.heap.size, 5, none⟩ = some (.int .i64 b') ∧ w'.cell? ⟨w.heap.size, 6, none⟩ = some (.int .i64 c') ∧ w'.cell? ⟨w.heap.size, 7, none⟩ = some (.int .i64 d'))) (by kernel_rfl) (by exact ⟨cell_of_row _ w.heap.size 0 _ _ _ (HS.kp _ _ (.inl ⟨rfl, rfl⟩)), cell_of_row _ w.heap.size 1 _ _ _ (HS.kp _ _ (.inl ⟨rfl, rfl⟩)), cell_of_row _ w.heap.size 2 _ _ _ (HS.kp _ _ (.inl ⟨rfl, rfl⟩)), cell_of_row _ w.heap.size 3 _ _ _ (HS.kp _ _ (.inl ⟨rfl, rfl⟩)), cell_of_row _ w.heap.size 4 _ _ _ (HS.kp _ _ (.inl ⟨rfl, rfl⟩)), cell_of_row _ w.heap.size 5 _ _ _ (HS.kp _ _ (.inl ⟨rfl, rfl⟩)), cell_of_row _ w.heap.size 6 _ _ _ (HS.kp _ _ (.inl ⟨rfl, rfl⟩)), cell_of_row _ w.heap.size 7 _ _ _ (HS.kp _ _ (.inl ⟨rfl, rfl⟩))⟩) (fun hH => ?_)
                                          refine take_at (i := 0) (v := ?_) rfl (by kernel_rfl) (by kernel_rfl) (by kernel_rfl) (fun _ _ _ h => h) (Or.inl ⟨by rfl, ?_⟩) hH ?_
                                          rotate_left
                                          · (intro w hSw; (try dsimp only at hSw); go_simp; (try with_reducible rfl))
                                          (try simp only [Act.put, List.setIfInBounds_toArray, List.set_cons_zero, List.set_cons_succ])
                                          refine take_at (i := 1) (v := ?_) rfl (by kernel_rfl) (by kernel_rfl) (by kernel_rfl) (fun _ _ _ h => h) (Or.inl ⟨by rfl, ?_⟩) hH ?_
                                          rotate_left
                                          · (intro w hSw; (try dsimp only at hSw); go_simp; (try with_reducible rfl))
                                          (try simp only [Act.put, List.setIfInBounds_toArray, List.set_cons_zero, List.set_cons_succ])
                                          refine take_at (i := 4) (v := ?_) rfl (by kernel_rfl) (by kernel_rfl) (by kernel_rfl) (fun _ _ _ h => h) (Or.inl ⟨by rfl, ?_⟩) hH ?_
                                          rotate_left
                                          · (intro w hSw; (try dsimp only at hSw); go_simp; (try with_reducible rfl))
                                          (try simp only [Act.put, List.setIfInBounds_toArray, List.set_cons_zero, List.set_cons_succ])
                                          refine take_at (i := 5) (v := ?_) rfl (by kernel_rfl) (by kernel_rfl) (by kernel_rfl) (fun _ _ _ h => h) (Or.inl ⟨by rfl, ?_⟩) hH ?_
                                          rotate_left
                                          · (intro w hSw; (try dsimp only at hSw); go_simp; (try with_reducible rfl))
                                          (try simp only [Act.put, List.setIfInBounds_toArray, List.set_cons_zero, List.set_cons_succ])
                                          show wpAnyH _ _ _ _ _ _ #[true, true, false, false, true, true, false, false, false, false, false, false] _ _
                                          revert hH HS
                                          generalize W40.drew = W9
                                          revert W9
                                          exact keyp000.out
                                        · intro W HS hH
                                          refine wpAnyH_ready (rs := [2, 8, 9]) (by kernel_rfl) (by simp) ?_
                                          refine cons_at rfl (fun K hK => ?_) (cons_at rfl (fun K hK => ?_) (cons_at rfl (fun K hK => ?_) AllReadyH.nil))
                                          · go_simp
                                            go_at_call_of 29 a
                                            refine (R1.out _).mono ?_
                                            rintro e w9 ⟨rfl, hb⟩
                                            (try go_wp2_with fail)
                                            replace HS := HS.step hb
                                            clear hb hH
                                            refine hK.out _ _ (by exact ⟨cell_of_row _ w.heap.size 0 _ _ _ (HS.kp _ _ (.inl ⟨rfl, rfl⟩)), cell_of_row _ w.heap.size 1 _ _ _ (HS.kp _ _ (.inl ⟨rfl, rfl⟩)), cell_of_row _ w.heap.size 2 _ _ _ (HS.kp _ _ (.inl ⟨rfl, rfl⟩)), cell_of_row _ w.heap.size 3 _ _ _ (HS.kp _ _ (.inl ⟨rfl, rfl⟩)), cell_of_row _ w.heap.size 4 _ _ _ (HS.kp _ _ (.inl ⟨rfl, rfl⟩)), cell_of_row _ w.heap.size 5 _ _ _ (HS.kp _ _ (.inl ⟨rfl, rfl⟩)), cell_of_row _ w.heap.size 6 _ _ _ (HS.kp _ _ (.inl ⟨rfl, rfl⟩)), cell_of_row _ w.heap.size 7 _ _ _ (HS.kp _ _ (.inl ⟨rfl, rfl⟩))⟩) (fun hH => ?_)
                                            clear hK K
                                            (try simp only [Act.put, List.setIfInBounds_toArray, List.set_cons_zero, List.set_cons_succ])
                                            show wpAnyH _ _ _ _ _ _ #[true, true, true, false, true, true, false, false, false, false, false, false] _ _
                                            revert hH HS
                                            revert w9
                                            exact keyp100.out
                                          · go_simp
                                            replace HS := GSt.allocA (.cells #[.int .i64 0, .int .i64 0, .int .i64 0, .int .i64 0] 33) (fun W => heap_alloc_new W _) HS
                                            clear hH
                                            refine hK.out _ _ (by exact ⟨cell_of_row _ w.heap.size 0 _ _ _ (HS.kp _ _ (.inl ⟨rfl, rfl⟩)), cell_of_row _ w.heap.size 1 _ _ _ (HS.kp _ _ (.inl ⟨rfl, rfl⟩)), cell_of_row _ w.heap.size 2 _ _ _ (HS.kp _ _ (.inl ⟨rfl, rfl⟩)), cell_of_row _ w.heap.size 3 _ _ _ (HS.kp _ _ (.inl ⟨rfl, rfl⟩)), cell_of_row _ w.heap.size 4 _ _ _ (HS.kp _ _ (.inl ⟨rfl, rfl⟩)), cell_of_row _ w.heap.size 5 _ _ _ (HS.kp _ _ (.inl ⟨rfl, rfl⟩)), cell_of_row _ w.heap.size 6 _ _ _ (HS.kp _ _ (.inl ⟨rfl, rfl⟩)), cell_of_row _ w.heap.size 7 _ _ _ (HS.kp _ _ (.inl ⟨rfl, rfl⟩))⟩) (fun hH => ?_)
                                            clear hK K
                                            (try simp only [Act.put, List.setIfInBounds_toArray, List.set_cons_zero, List.set_cons_succ])
                                            show wpAnyH _ _ _ _ _ _ #[true, true, false, false, true, true, false, false, true, false, false, false] _ _
                                            revert hH HS
                                            generalize W.alloc (.cells #[.int .i64 0, .int .i64 0, .int .i64 0, .int .i64 0] 33) = W9
                                            generalize W.heap.size = bap
                                            revert W9
                                            revert bap
                                            exact keyp010.out
                                          · go_simp
                                            replace HS := GSt.allocB (.cells #[.int .i64 0, .int .i64 0, .int .i64 0, .int .i64 0] 33) (fun W => heap_alloc_new W _) HS
                                            clear hH
                                            refine hK.out _ _ (by exact ⟨cell_of_row _ w.heap.size 0 _ _ _ (HS.kp _ _ (.inl ⟨rfl, rfl⟩)), cell_of_row _ w.heap.size 1 _ _ _ (HS.kp _ _ (.inl ⟨rfl, rfl⟩)), cell_of_row _ w.heap.size 2 _ _ _ (HS.kp _ _ (.inl ⟨rfl, rfl⟩)), cell_of_row _ w.heap.size 3 _ _ _ (HS.kp _ _ (.inl ⟨rfl, rfl⟩)), cell_of_row _ w.heap.size 4 _ _ _ (HS.kp _ _ (.inl ⟨rfl, rfl⟩)), cell_of_row _ w.heap.size 5 _ _ _ (HS.kp _ _ (.inl ⟨rfl, rfl⟩)), cell_of_row _ w.heap.size 6 _ _ _ (HS.kp _ _ (.inl ⟨rfl, rfl⟩)), cell_of_row _ w.heap.size 7 _ _ _ (HS.kp _ _ (.inl ⟨rfl, rfl⟩))⟩) (fun hH => ?_)
                                            clear hK K
                                            (try simp only [Act.put, List.setIfInBounds_toArray, List.set_cons_zero, List.set_cons_succ])
                                            show wpAnyH _ _ _ _ _ _ #[true, true, false, false, true, true, false, false, false, true, false, false] _ _
                                            revert hH HS
                                            generalize W.alloc (.cells #[.int .i64 0, .int .i64 0, .int .i64 0, .int .i64 0] 33) = W9
                                            generalize W.heap.size = bbp
                                            revert W9
                                            revert bbp
                                            exact keyp001.out
                                      · intro bap W HS hH
                                        refine wpAnyH_ready (rs := [2, 9]) (by kernel_rfl) (by simp) ?_
                                        refine cons_at rfl (fun K hK => ?_) (cons_at rfl (fun K hK => ?_) AllReadyH.nil)
                                        · go_simp
                                          go_at_call_of 29 a
                                          refine (R1.out _).mono ?_
                                          rintro e w9 ⟨rfl, hb⟩
                                          (try go_wp2_with fail)
                                          replace HS := HS.step hb
                                          clear hb hH
                                          refine hK.out _ _ (by exact ⟨cell_of_row _ w.heap.size 0 _ _ _ (HS.kp _ _ (.inl ⟨rfl, rfl⟩)), cell_of_row _ w.heap.size 1 _ _ _ (HS.kp _ _ (.inl ⟨rfl, rfl⟩)), cell_of_row _ w.heap.size 2 _ _ _ (HS.kp _ _ (.inl ⟨rfl, rfl⟩)), cell_of_row _ w.heap.size 3 _ _ _ (HS.kp _ _ (.inl ⟨rfl, rfl⟩)), cell_of_row _ w.heap.size 4 _ _ _ (HS.kp _ _ (.inl ⟨rfl, rfl⟩)), cell_of_row _ w.heap.size 5 _ _ _ (HS.kp _ _ (.inl ⟨rfl, rfl⟩)), cell_of_row _ w.heap.size 6 _ _ _ (HS.kp _ _ (.inl ⟨rfl, rfl⟩)), cell_of_row _ w.heap.size 7 _ _ _ (HS.kp _ _ (.inl ⟨rfl, rfl⟩))⟩) (fun hH => ?_)
                                          clear hK K
                                          (try simp only [Act.put, List.setIfInBounds_toArray, List.set_cons_zero, List.set_cons_succ])
                                          show wpAnyH _ _ _ _ _ _ #[true, true, true, false, true, true, false, false, true, false, false, false] _ _
                                          revert hH HS
                                          revert w9
                                          revert bap
                                          exact keyp110.out
                                        · go_simp
                                          replace HS := GSt.allocB (.cells #[.int .i64 0, .int .i64 0, .int .i64 0, .int .i64 0] 33) (fun W => heap_alloc_new W _) HS
                                          clear hH
                                          refine hK.out _ _ (by exact ⟨cell_of_row _ w.heap.size 0 _ _ _ (HS.kp _ _ (.inl ⟨rfl, rfl⟩)), cell_of_row _ w.heap.size 1 _ _ _ (HS.kp _ _ (.inl ⟨rfl, rfl⟩)), cell_of_row _ w.heap.size 2 _ _ _ (HS.kp _ _ (.inl ⟨rfl, rfl⟩)), cell_of_row _ w.heap.size 3 _ _ _ (HS.kp _ _ (.inl ⟨rfl, rfl⟩)), cell_of_row _ w.heap.size 4 _ _ _ (HS.kp _ _ (.inl ⟨rfl, rfl⟩)), cell_of_row _ w.heap.size 5 _ _ _ (HS.kp _ _ (.inl ⟨rfl, rfl⟩)), cell_of_row _ w.heap.size 6 _ _ _ (HS.kp _ _ (.inl ⟨rfl, rfl⟩)), cell_of_row _ w.heap.size 7 _ _ _ (HS.kp _ _ (.inl ⟨rfl, rfl⟩))⟩) (fun hH => ?_)
                                          clear hK K
                                          (try simp only [Act.put, List.setIfInBounds_toArray, List.set_cons_zero, List.set_cons_succ])
                                          show wpAnyH _ _ _ _ _ _ #[true, true, false, false, true, true, false, false, true, true, false, false] _ _
                                          revert hH HS
                                          generalize W.alloc (.cells #[.int .i64 0, .int .i64 0, .int .i64 0, .int .i64 0] 33) = W9
                                          generalize W.heap.size = bbp
                                          revert W9
                                          revert bbp
                                          revert bap
                                          exact keyp011.out
                                    · intro bbp W HS hH
                                      refine wpAnyH_ready (rs := [2, 8]) (by kernel_rfl) (by simp) ?_
                                      refine cons_at rfl (fun K hK => ?_) (cons_at rfl (fun K hK => ?_) AllReadyH.nil)
                                      · go_simp
                                        go_at_call_of 29 a
                                        refine (R1.out _).mono ?_
                                        rintro e w9 ⟨rfl, hb⟩
                                        (try go_wp2_with fail)
                                        replace HS := HS.step hb
                                        clear hb hH
                                        refine hK.out _ _ (by exact ⟨cell_of_row _ w.heap.size 0 _ _ _ (HS.kp _ _ (.inl ⟨rfl, rfl⟩)), cell_of_row _ w.heap.size 1 _ _ _ (HS.kp _ _ (.inl ⟨rfl, rfl⟩)), cell_of_row _ w.heap.size 2 _ _ _ (HS.kp _ _ (.inl ⟨rfl, rfl⟩)), cell_of_row _ w.heap.size 3 _ _ _ (HS.kp _ _ (.inl ⟨rfl, rfl⟩)), cell_of_row _ w.heap.size 4 _ _ _ (HS.kp _ _ (.inl ⟨rfl, rfl⟩)), cell_of_row _ w.heap.size 5 _ _ _ (HS.kp _ _ (.inl ⟨rfl, rfl⟩)), cell_of_row _ w.heap.size 6 _ _ _ (HS.kp _ _ (.inl ⟨rfl, rfl⟩)), cell_of_row _ w.heap.size 7 _ _ _ (HS.kp _ _ (.inl ⟨rfl, rfl⟩))⟩) (fun hH => ?_)
                                        clear hK K
                                        (try simp only [Act.put, List.setIfInBounds_toArray, List.set_cons_zero, List.set_cons_succ])
                                        show wpAnyH _ _ _ _ _ _ #[true, true, true, false, true, true, false, false, false, true, false, false] _ _
                                        revert hH HS
                                        revert w9
                                        revert bbp
                                        exact keyp101.out
                                      · go_simp
                                        replace HS := GSt.allocA (.cells #[.int .i64 0, .int .i64 0, .int .i64 0, .int .i64 0] 33) (fun W => heap_alloc_new W _) HS
                                        clear hH
                                        refine hK.out _ _ (by exact ⟨cell_of_row _ w.heap.size 0 _ _ _ (HS.kp _ _ (.inl ⟨rfl, rfl⟩)), cell_of_row _ w.heap.size 1 _ _ _ (HS.kp _ _ (.inl ⟨rfl, rfl⟩)), cell_of_row _ w.heap.size 2 _ _ _ (HS.kp _ _ (.inl ⟨rfl, rfl⟩)), cell_of_row _ w.heap.size 3 _ _ _ (HS.kp _ _ (.inl ⟨rfl, rfl⟩)), cell_of_row _ w.heap.size 4 _ _ _ (HS.kp _ _ (.inl ⟨rfl, rfl⟩)), cell_of_row _ w.heap.size 5 _ _ _ (HS.kp _ _ (.inl ⟨rfl, rfl⟩)), cell_of_row _ w.heap.size 6 _ _ _ (HS.kp _ _ (.inl ⟨rfl, rfl⟩)), cell_of_row _ w.heap.size 7 _ _ _ (HS.kp _ _ (.inl ⟨rfl, rfl⟩))⟩) (fun hH => ?_)
                                        clear hK K
                                        (try simp only [Act.put, List.setIfInBounds_toArray, List.set_cons_zero, List.set_cons_succ])
                                        show wpAnyH _ _ _ _ _ _ #[true, true, false, false, true, true, false, false, true, true, false, false] _ _
                                        exact keyp011.out _ _ _ HS hH
                                  · intro bap bbp W HS hH
                                    refine wpAnyH_ready (rs := [2]) (by kernel_rfl) (by simp) ?_
                                    refine cons_at rfl (fun K hK => ?_) AllReadyH.nil
                                    · go_simp
                                      go_at_call_of 29 a
                                      refine (R1.out _).mono ?_
                                      rintro e w9 ⟨rfl, hb⟩
                                      (try go_wp2_with fail)
                                      replace HS := HS.step hb
                                      clear hb hH
                                      refine hK.out _ _ (by exact ⟨cell_of_row _ w.heap.size 0 _ _ _ (HS.kp _ _ (.inl ⟨rfl, rfl⟩)), cell_of_row _ w.heap.size 1 _ _ _ (HS.kp _ _ (.inl ⟨rfl, rfl⟩)), cell_of_row _ w.heap.size 2 _ _ _ (HS.kp _ _ (.inl ⟨rfl, rfl⟩)), cell_of_row _ w.heap.size 3 _ _ _ (HS.kp _ _ (.inl ⟨rfl, rfl⟩)), cell_of_row _ w.heap.size 4 _ _ _ (HS.kp _ _ (.inl ⟨rfl, rfl⟩)), cell_of_row _ w.heap.size 5 _ _ _ (HS.kp _ _ (.inl ⟨rfl, rfl⟩)), cell_of_row _ w.heap.size 6 _ _ _ (HS.kp _ _ (.inl ⟨rfl, rfl⟩)), cell_of_row _ w.heap.size 7 _ _ _ (HS.kp _ _ (.inl ⟨rfl, rfl⟩))⟩) (fun hH => ?_)
                                      clear hK K
                                      (try simp only [Act.put, List.setIfInBounds_toArray, List.set_cons_zero, List.set_cons_succ])
                                      show wpAnyH _ _ _ _ _ _ #[true, true, true, false, true, true, false, false, true, true, false, false] _ _
                                      revert hH HS
                                      revert w9
                                      revert bbp
                                      revert bap
                                      exact keyp111.out
                                · intro W HS hH
                                  refine wpAnyH_ready (rs := [3, 8, 9]) (by kernel_rfl) (by simp) ?_
                                  refine cons_at rfl (fun K hK => ?_) (cons_at rfl (fun K hK => ?_) (cons_at rfl (fun K hK => ?_) AllReadyH.nil))
                                  · go_simp
                                    go_at_call_of 31 p1
                                    refine (G1.out _).mono ?_
                                    rintro e w9 ⟨rfl, hb⟩
                                    (try go_wp2_with fail)
                                    replace HS := HS.step hb
                                    clear hb hH
                                    refine hK.out _ _ (by exact ⟨cell_of_row _ w.heap.size 0 _ _ _ (HS.kp _ _ (.inl ⟨rfl, rfl⟩)), cell_of_row _ w.heap.size 1 _ _ _ (HS.kp _ _ (.inl ⟨rfl, rfl⟩)), cell_of_row _ w.heap.size 2 _ _ _ (HS.kp _ _ (.inl ⟨rfl, rfl⟩)), cell_of_row _ w.heap.size 3 _ _ _ (HS.kp _ _ (.inl ⟨rfl, rfl⟩)), cell_of_row _ w.heap.size 4 _ _ _ (HS.kp _ _ (.inl ⟨rfl, rfl⟩)), cell_of_row _ w.heap.size 5 _ _ _ (HS.kp _ _ (.inl ⟨rfl, rfl⟩)), cell_of_row _ w.heap.size 6 _ _ _ (HS.kp _ _ (.inl ⟨rfl, rfl⟩)), cell_of_row _ w.heap.size 7 _ _ _ (HS.kp _ _ (.inl ⟨rfl, rfl⟩))⟩) (fun hH => ?_)
                                    clear hK K
                                    (try simp only [Act.put, List.setIfInBounds_toArray, List.set_cons_zero, List.set_cons_succ])
                                    show wpAnyH _ _ _ _ _ _ #[true, true, true, true, true, true, false, false, false, false, false, false] _ _
                                    revert hH HS
                                    revert w9
                                    exact keyp200.out
                                  · go_simp
                                    replace HS := GSt.allocA (.cells #[.int .i64 0, .int .i64 0, .int .i64 0, .int .i64 0] 33) (fun W => heap_alloc_new W _) HS
                                    clear hH
                                    refine hK.out _ _ (by exact ⟨cell_of_row _ w.heap.size 0 _ _ _ (HS.kp _ _ (.inl ⟨rfl, rfl⟩)), cell_of_row _ w.heap.size 1 _ _ _ (HS.kp _ _ (.inl ⟨rfl, rfl⟩)), cell_of_row _ w.heap.size 2 _ _ _ (HS.kp _ _ (.inl ⟨rfl, rfl⟩)), cell_of_row _ w.heap.size 3 _ _ _ (HS.kp _ _ (.inl ⟨rfl, rfl⟩)), cell_of_row _ w.heap.size 4 _ _ _ (HS.kp _ _ (.inl ⟨rfl, rfl⟩)), cell_of_row _ w.heap.size 5 _ _ _ (HS.kp _ _ (.inl ⟨rfl, rfl⟩)), cell_of_row _ w.heap.size 6 _ _ _ (HS.kp _ _ (.inl ⟨rfl, rfl⟩)), cell_of_row _ w.heap.size 7 _ _ _ (HS.kp _ _ (.inl ⟨rfl, rfl⟩))⟩) (fun hH => ?_)
                                    clear hK K
                                    (try simp only [Act.put, List.setIfInBounds_toArray, List.set_cons_zero, List.set_cons_succ])
                                    show wpAnyH _ _ _ _ _ _ #[true, true, true, false, true, true, false, false, true, false, false, false] _ _
                                    exact keyp110.out _ _ HS hH
                                  · go_simp
                                    replace HS := GSt.allocB (.cells #[.int .i64 0, .int .i64 0, .int .i64 0, .int .i64 0] 33) (fun W => heap_alloc_new W _) HS
                                    clear hH
                                    refine hK.out _ _ (by exact ⟨cell_of_row _ w.heap.size 0 _ _ _ (HS.kp _ _ (.inl ⟨rfl, rfl⟩)), cell_of_row _ w.heap.size 1 _ _ _ (HS.kp _ _ (.inl ⟨rfl, rfl⟩)), cell_of_row _ w.heap.size 2 _ _ _ (HS.kp _ _ (.inl ⟨rfl, rfl⟩)), cell_of_row _ w.heap.size 3 _ _ _ (HS.kp _ _ (.inl ⟨rfl, rfl⟩)), cell_of_row _ w.heap.size 4 _ _ _ (HS.kp _ _ (.inl ⟨rfl, rfl⟩)), cell_of_row _ w.heap.size 5 _ _ _ (HS.kp _ _ (.inl ⟨rfl, rfl⟩)), cell_of_row _ w.heap.size 6 _ _ _ (HS.kp _ _ (.inl ⟨rfl, rfl⟩)), cell_of_row _ w.heap.size 7 _ _ _ (HS.kp _ _ (.inl ⟨rfl, rfl⟩))⟩) (fun hH => ?_)
                                    clear hK K
                                    (try simp only [Act.put, List.setIfInBounds_toArray, List.set_cons_zero, List.set_cons_succ])
                                    show wpAnyH _ _ _ _ _ _ #[true, true, true, false, true, true, false, false, false, true, false, false] _ _
                                    exact keyp101.out _ _ HS hH
                              · intro bap W HS hH
                                refine wpAnyH_ready (rs := [3, 9]) (by kernel_rfl) (by simp) ?_
                                refine cons_at rfl (fun K hK => ?_) (cons_at rfl (fun K hK => ?_) AllReadyH.nil)
                                · go_simp
                                  go_at_call_of 31 p1
                                  refine (G1.out _).mono ?_
                                  rintro e w9 ⟨rfl, hb⟩
                                  (try go_wp2_with fail)
                                  replace HS := HS.step hb
                                  clear hb hH
                                  refine hK.out _ _ (by exact ⟨cell_of_row _ w.heap.size 0 _ _ _ (HS.kp _ _ (.inl ⟨rfl, rfl⟩)), cell_of_row _ w.heap.size 1 _ _ _ (HS.kp _ _ (.inl ⟨rfl, rfl⟩)), cell_of_row _ w.heap.size 2 _ _ _ (HS.kp _ _ (.inl ⟨rfl, rfl⟩)), cell_of_row _ w.heap.size 3 _ _ _ (HS.kp _ _ (.inl ⟨rfl, rfl⟩)), cell_of_row _ w.heap.size 4 _ _ _ (HS.kp _ _ (.inl ⟨rfl, rfl⟩)), cell_of_row _ w.heap.size 5 _ _ _ (HS.kp _ _ (.inl ⟨rfl, rfl⟩)), cell_of_row _ w.heap.size 6 _ _ _ (HS.kp _ _ (.inl ⟨rfl, rfl⟩)), cell_of_row _ w.heap.size 7 _ _ _ (HS.kp _ _ (.inl ⟨rfl, rfl⟩))⟩) (fun hH => ?_)
                                  clear hK K
                                  (try simp only [Act.put, List.setIfInBounds_toArray, List.set_cons_zero, List.set_cons_succ])
                                  show wpAnyH _ _ _ _ _ _ #[true, true, true, true, true, true, false, false, true, false, false, false] _ _
                                  revert hH HS
                                  revert w9
                                  revert bap
                                  exact keyp210.out
                                · go_simp
                                  replace HS := GSt.allocB (.cells #[.int .i64 0, .int .i64 0, .int .i64 0, .int .i64 0] 33) (fun W => heap_alloc_new W _) HS
                                  clear hH
                                  refine hK.out _ _ (by exact ⟨cell_of_row _ w.heap.size 0 _ _ _ (HS.kp _ _ (.inl ⟨rfl, rfl⟩)), cell_of_row _ w.heap.size 1 _ _ _ (HS.kp _ _ (.inl ⟨rfl, rfl⟩)), cell_of_row _ w.heap.size 2 _ _ _ (HS.kp _ _ (.inl ⟨rfl, rfl⟩)), cell_of_row _ w.heap.size 3 _ _ _ (HS.kp _ _ (.inl ⟨rfl, rfl⟩)), cell_of_row _ w.heap.size 4 _ _ _ (HS.kp _ _ (.inl ⟨rfl, rfl⟩)), cell_of_row _ w.heap.size 5 _ _ _ (HS.kp _ _ (.inl ⟨rfl, rfl⟩)), cell_of_row _ w.heap.size 6 _ _ _ (HS.kp _ _ (.inl ⟨rfl, rfl⟩)), cell_of_row _ w.heap.size 7 _ _ _ (HS.kp _ _ (.inl ⟨rfl, rfl⟩))⟩) (fun hH => ?_)
                                  clear hK K
                                  (try simp only [Act.put, List.setIfInBounds_toArray, List.set_cons_zero, List.set_cons_succ])
                                  show wpAnyH _ _ _ _ _ _ #[true, true, true, false, true, true, false, false, true, true, false, false] _ _
                                  exact keyp111.out _ _ _ HS hH
                            · intro bbp W HS hH
                              refine wpAnyH_ready (rs := [3, 8]) (by kernel_rfl) (by simp) ?_
                              refine cons_at rfl (fun K hK => ?_) (cons_at rfl (fun K hK => ?_) AllReadyH.nil)
                              · go_simp
                                go_at_call_of 31 p1
                                refine (G1.out _).mono ?_
                                rintro e w9 ⟨rfl, hb⟩
                                (try go_wp2_with fail)
                                replace HS := HS.step hb
                                clear hb hH
                                refine hK.out _ _ (by exact ⟨cell_of_row _ w.heap.size 0 _ _ _ (HS.kp _ _ (.inl ⟨rfl, rfl⟩)), cell_of_row _ w.heap.size 1 _ _ _ (HS.kp _ _ (.inl ⟨rfl, rfl⟩)), cell_of_row _ w.heap.size 2 _ _ _ (HS.kp _ _ (.inl ⟨rfl, rfl⟩)), cell_of_row _ w.heap.size 3 _ _ _ (HS.kp _ _ (.inl ⟨rfl, rfl⟩)), cell_of_row _ w.heap.size 4 _ _ _ (HS.kp _ _ (.inl ⟨rfl, rfl⟩)), cell_of_row _ w.heap.size 5 _ _ _ (HS.kp _ _ (.inl ⟨rfl, rfl⟩)), cell_of_row _ w.heap.size 6 _ _ _ (HS.kp _ _ (.inl ⟨rfl, rfl⟩)), cell_of_row _ w.heap.size 7 _ _ _ (HS.kp _ _ (.inl ⟨rfl, rfl⟩))⟩) (fun hH => ?_)
                                clear hK K
                                (try simp only [Act.put, List.setIfInBounds_toArray, List.set_cons_zero, List.set_cons_succ])
                                show wpAnyH _ _ _ _ _ _ #[true, true, true, true, true, true, false, false, false, true, false, false] _ _
                                revert hH HS
                                revert w9
                                revert bbp
                                exact keyp201.out
                              · go_simp
                                replace HS := GSt.allocA (.cells #[.int .i64 0, .int .i64 0, .int .i64 0, .int .i64 0] 33) (fun W => heap_alloc_new W _) HS
                                clear hH
                                refine hK.out _ _ (by exact ⟨cell_of_row _ w.heap.size 0 _ _ _ (HS.kp _ _ (.inl ⟨rfl, rfl⟩)), cell_of_row _ w.heap.size 1 _ _ _ (HS.kp _ _ (.inl ⟨rfl, rfl⟩)), cell_of_row _ w.heap.size 2 _ _ _ (HS.kp _ _ (.inl ⟨rfl, rfl⟩)), cell_of_row _ w.heap.size 3 _ _ _ (HS.kp _ _ (.inl ⟨rfl, rfl⟩)), cell_of_row _ w.heap.size 4 _ _ _ (HS.kp _ _ (.inl ⟨rfl, rfl⟩)), cell_of_row _ w.heap.size 5 _ _ _ (HS.kp _ _ (.inl ⟨rfl, rfl⟩)), cell_of_row _ w.heap.size 6 _ _ _ (HS.kp _ _ (.inl ⟨rfl, rfl⟩)), cell_of_row _ w.heap.size 7 _ _ _ (HS.kp _ _ (.inl ⟨rfl, rfl⟩))⟩) (fun hH => ?_)
                                clear hK K
                                (try simp only [Act.put, List.setIfInBounds_toArray, List.set_cons_zero, List.set_cons_succ])
                                show wpAnyH _ _ _ _ _ _ #[true, true, true, false, true, true, false, false, true, true, false, false] _ _
                                exact keyp111.out _ _ _ HS hH
                          · intro bap bbp W HS hH
                            refine wpAnyH_ready (rs := [3]) (by kernel_rfl) (by simp) ?_
                            refine cons_at rfl (fun K hK => ?_) AllReadyH.nil
                            · go_simp
                              go_at_call_of 31 p1
                              refine (G1.out _).mono ?_
                              rintro e w9 ⟨rfl, hb⟩
                              (try go_wp2_with fail)
                              replace HS := HS.step hb
                              clear hb hH
                              refine hK.out _ _ (by exact ⟨cell_of_row _ w.heap.size 0 _ _ _ (HS.kp _ _ (.inl ⟨rfl, rfl⟩)), cell_of_row _ w.heap.size 1 _ _ _ (HS.kp _ _ (.inl ⟨rfl, rfl⟩)), cell_of_row _ w.heap.size 2 _ _ _ (HS.kp _ _ (.inl ⟨rfl, rfl⟩)), cell_of_row _ w.heap.size 3 _ _ _ (HS.kp _ _ (.inl ⟨rfl, rfl⟩)), cell_of_row _ w.heap.size 4 _ _ _ (HS.kp _ _ (.inl ⟨rfl, rfl⟩)), cell_of_row _ w.heap.size 5 _ _ _ (HS.kp _ _ (.inl ⟨rfl, rfl⟩)), cell_of_row _ w.heap.size 6 _ _ _ (HS.kp _ _ (.inl ⟨rfl, rfl⟩)), cell_of_row _ w.heap.size 7 _ _ _ (HS.kp _ _ (.inl ⟨rfl, rfl⟩))⟩) (fun hH => ?_)
                              clear hK K
                              (try simp only [Act.put, List.setIfInBounds_toArray, List.set_cons_zero, List.set_cons_succ])
                              show wpAnyH _ _ _ _ _ _ #[true, true, true, true, true, true, false, false, true, true, false, false] _ _
                              revert hH HS
                              revert w9
                              revert bbp
                              revert bap
                              exact keyp211.out
                        · intro W HS hH
                          refine wpAnyH_ready (rs := [6, 8, 9]) (by kernel_rfl) (by simp) ?_
                          refine cons_at rfl (fun K hK => ?_) (cons_at rfl (fun K hK => ?_) (cons_at rfl (fun K hK => ?_) AllReadyH.nil))
                          · go_simp
                            go_at_call_of 29 a'
                            refine (R2.out _).mono ?_
                            rintro e w9 ⟨rfl, hb⟩
                            (try go_wp2_with fail)
                            replace HS := HS.step hb
                            clear hb hH
                            refine hK.out _ _ (by exact ⟨cell_of_row _ w.heap.size 0 _ _ _ (HS.kp _ _ (.inl ⟨rfl, rfl⟩)), cell_of_row _ w.heap.size 1 _ _ _ (HS.kp _ _ (.inl ⟨rfl, rfl⟩)), cell_of_row _ w.heap.size 2 _ _ _ (HS.kp _ _ (.inl ⟨rfl, rfl⟩)), cell_of_row _ w.heap.size 3 _ _ _ (HS.kp _ _ (.inl ⟨rfl, rfl⟩)), cell_of_row _ w.heap.size 4 _ _ _ (HS.kp _ _ (.inl ⟨rfl, rfl⟩)), cell_of_row _ w.heap.size 5 _ _ _ (HS.kp _ _ (.inl ⟨rfl, rfl⟩)), cell_of_row _ w.heap.size 6 _ _ _ (HS.kp _ _ (.inl ⟨rfl, rfl⟩)), cell_of_row _ w.heap.size 7 _ _ _ (HS.kp _ _ (.inl ⟨rfl, rfl⟩))⟩) (fun hH => ?_)
                            clear hK K
                            (try simp only [Act.put, List.setIfInBounds_toArray, List.set_cons_zero, List.set_cons_succ])
                            show wpAnyH _ _ _ _ _ _ #[true, true, true, true, true, true, true, false, false, false, false, false] _ _
                            revert hH HS
                            revert w9
                            exact keyp300.out
                          · go_simp
                            replace HS := GSt.allocA (.cells #[.int .i64 0, .int .i64 0, .int .i64 0, .int .i64 0] 33) (fun W => heap_alloc_new W _) HS
                            clear hH
                            refine hK.out _ _ (by exact ⟨cell_of_row _ w.heap.size 0 _ _ _ (HS.kp _ _ (.inl ⟨rfl, rfl⟩)), cell_of_row _ w.heap.size 1 _ _ _ (HS.kp _ _ (.inl ⟨rfl, rfl⟩)), cell_of_row _ w.heap.size 2 _ _ _ (HS.kp _ _ (.inl ⟨rfl, rfl⟩)), cell_of_row _ w.heap.size 3 _ _ _ (HS.kp _ _ (.inl ⟨rfl, rfl⟩)), cell_of_row _ w.heap.size 4 _ _ _ (HS.kp _ _ (.inl ⟨rfl, rfl⟩)), cell_of_row _ w.heap.size 5 _ _ _ (HS.kp _ _ (.inl ⟨rfl, rfl⟩)), cell_of_row _ w.heap.size 6 _ _ _ (HS.kp _ _ (.inl ⟨rfl, rfl⟩)), cell_of_row _ w.heap.size 7 _ _ _ (HS.kp _ _ (.inl ⟨rfl, rfl⟩))⟩) (fun hH => ?_)
                            clear hK K
                            (try simp only [Act.put, List.setIfInBounds_toArray, List.set_cons_zero, List.set_cons_succ])
                            show wpAnyH _ _ _ _ _ _ #[true, true, true, true, true, true, false, false, true, false, false, false] _ _
                            exact keyp210.out _ _ HS hH
                          · go_simp
                            replace HS := GSt.allocB (.cells #[.int .i64 0, .int .i64 0, .int .i64 0, .int .i64 0] 33) (fun W => heap_alloc_new W _) HS
                            clear hH
                            refine hK.out _ _ (by exact ⟨cell_of_row _ w.heap.size 0 _ _ _ (HS.kp _ _ (.inl ⟨rfl, rfl⟩)), cell_of_row _ w.heap.size 1 _ _ _ (HS.kp _ _ (.inl ⟨rfl, rfl⟩)), cell_of_row _ w.heap.size 2 _ _ _ (HS.kp _ _ (.inl ⟨rfl, rfl⟩)), cell_of_row _ w.heap.size 3 _ _ _ (HS.kp _ _ (.inl ⟨rfl, rfl⟩)), cell_of_row _ w.heap.size 4 _ _ _ (HS.kp _ _ (.inl ⟨rfl, rfl⟩)), cell_of_row _ w.heap.size 5 _ _ _ (HS.kp _ _ (.inl ⟨rfl, rfl⟩)), cell_of_row _ w.heap.size 6 _ _ _ (HS.kp _ _ (.inl ⟨rfl, rfl⟩)), cell_of_row _ w.heap.size 7 _ _ _ (HS.kp _ _ (.inl ⟨rfl, rfl⟩))⟩) (fun hH => ?_)
                            clear hK K
                            (try simp only [Act.put, List.setIfInBounds_toArray, List.set_cons_zero, List.set_cons_succ])
                            show wpAnyH _ _ _ _ _ _ #[true, true, true, true, true, true, false, false, false, true, false, false] _ _
                            exact keyp201.out _ _ HS hH
                      · intro bap W HS hH
                        refine wpAnyH_ready (rs := [6, 9]) (by kernel_rfl) (by simp) ?_
                        refine cons_at rfl (fun K hK => ?_) (cons_at rfl (fun K hK => ?_) AllReadyH.nil)
                        · go_simp
                          go_at_call_of 29 a'
                          refine (R2.out _).mono ?_
                          rintro e w9 ⟨rfl, hb⟩
                          (try go_wp2_with fail)
                          replace HS := HS.step hb
                          clear hb hH
                          refine hK.out _ _ (by exact ⟨cell_of_row _ w.heap.size 0 _ _ _ (HS.kp _ _ (.inl ⟨rfl, rfl⟩)), cell_of_row _ w.heap.size 1 _ _ _ (HS.kp _ _ (.inl ⟨rfl, rfl⟩)), cell_of_row _ w.heap.size 2 _ _ _ (HS.kp _ _ (.inl ⟨rfl, rfl⟩)), cell_of_row _ w.heap.size 3 _ _ _ (HS.kp _ _ (.inl ⟨rfl, rfl⟩)), cell_of_row _ w.heap.size 4 _ _ _ (HS.kp _ _ (.inl ⟨rfl, rfl⟩)), cell_of_row _ w.heap.size 5 _ _ _ (HS.kp _ _ (.inl ⟨rfl, rfl⟩)), cell_of_row _ w.heap.size 6 _ _ _ (HS.kp _ _ (.inl ⟨rfl, rfl⟩)), cell_of_row _ w.heap.size 7 _ _ _ (HS.kp _ _ (.inl ⟨rfl, rfl⟩))⟩) (fun hH => ?_)
                          clear hK K
                          (try simp only [Act.put, List.setIfInBounds_toArray, List.set_cons_zero, List.set_cons_succ])
                          show wpAnyH _ _ _ _ _ _ #[true, true, true, true, true, true, true, false, true, false, false, false] _ _
                          revert hH HS
                          revert w9
                          revert bap
                          exact keyp310.out
                        · go_simp
                          replace HS := GSt.allocB (.cells #[.int .i64 0, .int .i64 0, .int .i64 0, .int .i64 0] 33) (fun W => heap_alloc_new W _) HS
                          clear hH
                          refine hK.out _ _ (by exact ⟨cell_of_row _ w.heap.size 0 _ _ _ (HS.kp _ _ (.inl ⟨rfl, rfl⟩)), cell_of_row _ w.heap.size 1 _ _ _ (HS.kp _ _ (.inl ⟨rfl, rfl⟩)), cell_of_row _ w.heap.size 2 _ _ _ (HS.kp _ _ (.inl ⟨rfl, rfl⟩)), cell_of_row _ w.heap.size 3 _ _ _ (HS.kp _ _ (.inl ⟨rfl, rfl⟩)), cell_of_row _ w.heap.size 4 _ _ _ (HS.kp _ _ (.inl ⟨rfl, rfl⟩)), cell_of_row _ w.heap.size 5 _ _ _ (HS.kp _ _ (.inl ⟨rfl, rfl⟩)), cell_of_row _ w.heap.size 6 _ _ _ (HS.kp _ _ (.inl ⟨rfl, rfl⟩)), cell_of_row _ w.heap.size 7 _ _ _ (HS.kp _ _ (.inl ⟨rfl, rfl⟩))⟩) (fun hH => ?_)
                          clear hK K
                          (try simp only [Act.put, List.setIfInBounds_toArray, List.set_cons_zero, List.set_cons_succ])
                          show wpAnyH _ _ _ _ _ _ #[true, true, true, true, true, true, false, false, true, true, false, false] _ _
                          exact keyp211.out _ _ _ HS hH
                    · intro bbp W HS hH
                      refine wpAnyH_ready (rs := [6, 8]) (by kernel_rfl) (by simp) ?_
                      refine cons_at rfl (fun K hK => ?_) (cons_at rfl (fun K hK => ?_) AllReadyH.nil)
                      · go_simp
                        go_at_call_of 29 a'
                        refine (R2.out _).mono ?_
                        rintro e w9 ⟨rfl, hb⟩
                        (try go_wp2_with fail)
                        replace HS := HS.step hb
                        clear hb hH
                        refine hK.out _ _ (by exact ⟨cell_of_row _ w.heap.size 0 _ _ _ (HS.kp _ _ (.inl ⟨rfl, rfl⟩)), cell_of_row _ w.heap.size 1 _ _ _ (HS.kp _ _ (.inl ⟨rfl, rfl⟩)), cell_of_row _ w.heap.size 2 _ _ _ (HS.kp _ _ (.inl ⟨rfl, rfl⟩)), cell_of_row _ w.heap.size 3 _ _ _ (HS.kp _ _ (.inl ⟨rfl, rfl⟩)), cell_of_row _ w.heap.size 4 _ _ _ (HS.kp _ _ (.inl ⟨rfl, rfl⟩)), cell_of_row _ w.heap.size 5 _ _ _ (HS.kp _ _ (.inl ⟨rfl, rfl⟩)), cell_of_row _ w.heap.size 6 _ _ _ (HS.kp _ _ (.inl ⟨rfl, rfl⟩)), cell_of_row _ w.heap.size 7 _ _ _ (HS.kp _ _ (.inl ⟨rfl, rfl⟩))⟩) (fun hH => ?_)
                        clear hK K
                        (try simp only [Act.put, List.setIfInBounds_toArray, List.set_cons_zero, List.set_cons_succ])
                        show wpAnyH _ _ _ _ _ _ #[true, true, true, true, true, true, true, false, false, true, false, false] _ _
                        revert hH HS
                        revert w9
                        revert bbp
                        exact keyp301.out
                      · go_simp
                        replace HS := GSt.allocA (.cells #[.int .i64 0, .int .i64 0, .int .i64 0, .int .i64 0] 33) (fun W => heap_alloc_new W _) HS
                        clear hH
                        refine hK.out _ _ (by exact ⟨cell_of_row _ w.heap.size 0 _ _ _ (HS.kp _ _ (.inl ⟨rfl, rfl⟩)), cell_of_row _ w.heap.size 1 _ _ _ (HS.kp _ _ (.inl ⟨rfl, rfl⟩)), cell_of_row _ w.heap.size 2 _ _ _ (HS.kp _ _ (.inl ⟨rfl, rfl⟩)), cell_of_row _ w.heap.size 3 _ _ _ (HS.kp _ _ (.inl ⟨rfl, rfl⟩)), cell_of_row _ w.heap.size 4 _ _ _ (HS.kp _ _ (.inl ⟨rfl, rfl⟩)), cell_of_row _ w.heap.size 5 _ _ _ (HS.kp _ _ (.inl ⟨rfl, rfl⟩)), cell_of_row _ w.heap.size 6 _ _ _ (HS.kp _ _ (.inl ⟨rfl, rfl⟩)), cell_of_row _ w.heap.size 7 _ _ _ (HS.kp _ _ (.inl ⟨rfl, rfl⟩))⟩) (fun hH => ?_)
                        clear hK K
                        (try simp only [Act.put, List.setIfInBounds_toArray, List.set_cons_zero, List.set_cons_succ])
                        show wpAnyH _ _ _ _ _ _ #[true, true, true, true, true, true, false, false, true, true, false, false] _ _
                        exact keyp211.out _ _ _ HS hH
                  · intro bap bbp W HS hH
                    refine wpAnyH_ready (rs := [6]) (by kernel_rfl) (by simp) ?_
                    refine cons_at rfl (fun K hK => ?_) AllReadyH.nil
                    · go_simp
                      go_at_call_of 29 a'
                      refine (R2.out _).mono ?_
                      rintro e w9 ⟨rfl, hb⟩
                      (try go_wp2_with fail)
                      replace HS := HS.step hb
                      clear hb hH
                      refine hK.out _ _ (by exact ⟨cell_of_row _ w.heap.size 0 _ _ _ (HS.kp _ _ (.inl ⟨rfl, rfl⟩)), cell_of_row _ w.heap.size 1 _ _ _ (HS.kp _ _ (.inl ⟨rfl, rfl⟩)), cell_of_row _ w.heap.size 2 _ _ _ (HS.kp _ _ (.inl ⟨rfl, rfl⟩)), cell_of_row _ w.heap.size 3 _ _ _ (HS.kp _ _ (.inl ⟨rfl, rfl⟩)), cell_of_row _ w.heap.size 4 _ _ _ (HS.kp _ _ (.inl ⟨rfl, rfl⟩)), cell_of_row _ w.heap.size 5 _ _ _ (HS.kp _ _ (.inl ⟨rfl, rfl⟩)), cell_of_row _ w.heap.size 6 _ _ _ (HS.kp _ _ (.inl ⟨rfl, rfl⟩)), cell_of_row _ w.heap.size 7 _ _ _ (HS.kp _ _ (.inl ⟨rfl, rfl⟩))⟩) (fun hH => ?_)
                      clear hK K
                      (try simp only [Act.put, List.setIfInBounds_toArray, List.set_cons_zero, List.set_cons_succ])
                      show wpAnyH _ _ _ _ _ _ #[true, true, true, true, true, true, true, false, true, true, false, false] _ _
                      revert hH HS
                      revert w9
                      revert bbp
                      revert bap
                      exact keyp311.out
                · intro W HS hH
                  refine wpAnyH_ready (rs := [7, 8, 9]) (by kernel_rfl) (by simp) ?_
                  refine cons_at rfl (fun K hK => ?_) (cons_at rfl (fun K hK => ?_) (cons_at rfl (fun K hK => ?_) AllReadyH.nil))
                  · go_simp
                    go_at_call_of 31 p2
                    refine (G2.out _).mono ?_
                    rintro e w9 ⟨rfl, hb⟩
                    (try go_wp2_with fail)
                    replace HS := HS.step hb
                    clear hb hH
                    refine hK.out _ _ (by exact ⟨cell_of_row _ w.heap.size 0 _ _ _ (HS.kp _ _ (.inl ⟨rfl, rfl⟩)), cell_of_row _ w.heap.size 1 _ _ _ (HS.kp _ _ (.inl ⟨rfl, rfl⟩)), cell_of_row _ w.heap.size 2 _ _ _ (HS.kp _ _ (.inl ⟨rfl, rfl⟩)), cell_of_row _ w.heap.size 3 _ _ _ (HS.kp _ _ (.inl ⟨rfl, rfl⟩)), cell_of_row _ w.heap.size 4 _ _ _ (HS.kp _ _ (.inl ⟨rfl, rfl⟩)), cell_of_row _ w.heap.size 5 _ _ _ (HS.kp _ _ (.inl ⟨rfl, rfl⟩)), cell_of_row _ w.heap.size 6 _ _ _ (HS.kp _ _ (.inl ⟨rfl, rfl⟩)), cell_of_row _ w.heap.size 7 _ _ _ (HS.kp _ _ (.inl ⟨rfl, rfl⟩))⟩) (fun hH => ?_)
                    clear hK K
                    (try simp only [Act.put, List.setIfInBounds_toArray, List.set_cons_zero, List.set_cons_succ])
                    show wpAnyH _ _ _ _ _ _ #[true, true, true, true, true, true, true, true, false, false, false, false] _ _
                    revert hH HS
                    revert w9
                    exact keyp400.out
                  · go_simp
                    replace HS := GSt.allocA (.cells #[.int .i64 0, .int .i64 0, .int .i64 0, .int .i64 0] 33) (fun W => heap_alloc_new W _) HS
                    clear hH
                    refine hK.out _ _ (by exact ⟨cell_of_row _ w.heap.size 0 _ _ _ (HS.kp _ _ (.inl ⟨rfl, rfl⟩)), cell_of_row _ w.heap.size 1 _ _ _ (HS.kp _ _ (.inl ⟨rfl, rfl⟩)), cell_of_row _ w.heap.size 2 _ _ _ (HS.kp _ _ (.inl ⟨rfl, rfl⟩)), cell_of_row _ w.heap.size 3 _ _ _ (HS.kp _ _ (.inl ⟨rfl, rfl⟩)), cell_of_row _ w.heap.size 4 _ _ _ (HS.kp _ _ (.inl ⟨rfl, rfl⟩)), cell_of_row _ w.heap.size 5 _ _ _ (HS.kp _ _ (.inl ⟨rfl, rfl⟩)), cell_of_row _ w.heap.size 6 _ _ _ (HS.kp _ _ (.inl ⟨rfl, rfl⟩)), cell_of_row _ w.heap.size 7 _ _ _ (HS.kp _ _ (.inl ⟨rfl, rfl⟩))⟩) (fun hH => ?_)
                    clear hK K
                    (try simp only [Act.put, List.setIfInBounds_toArray, List.set_cons_zero, List.set_cons_succ])
                    show wpAnyH _ _ _ _ _ _ #[true, true, true, true, true, true, true, false, true, false, false, false] _ _
                    exact keyp310.out _ _ HS hH
                  · go_simp
                    replace HS := GSt.allocB (.cells #[.int .i64 0, .int .i64 0, .int .i64 0, .int .i64 0] 33) (fun W => heap_alloc_new W _) HS
                    clear hH
                    refine hK.out _ _ (by exact ⟨cell_of_row _ w.heap.size 0 _ _ _ (HS.kp _ _ (.inl ⟨rfl, rfl⟩)), cell_of_row _ w.heap.size 1 _ _ _ (HS.kp _ _ (.inl ⟨rfl, rfl⟩)), cell_of_row _ w.heap.size 2 _ _ _ (HS.kp _ _ (.inl ⟨rfl, rfl⟩)), cell_of_row _ w.heap.size 3 _ _ _ (HS.kp _ _ (.inl ⟨rfl, rfl⟩)), cell_of_row _ w.heap.size 4 _ _ _ (HS.kp _ _ (.inl ⟨rfl, rfl⟩)), cell_of_row _ w.heap.size 5 _ _ _ (HS.kp _ _ (.inl ⟨rfl, rfl⟩)), cell_of_row _ w.heap.size 6 _ _ _ (HS.kp _ _ (.inl ⟨rfl, rfl⟩)), cell_of_row _ w.heap.size 7 _ _ _ (HS.kp _ _ (.inl ⟨rfl, rfl⟩))⟩) (fun hH => ?_)
                    clear hK K
                    (try simp only [Act.put, List.setIfInBounds_toArray, List.set_cons_zero, List.set_cons_succ])
                    show wpAnyH _ _ _ _ _ _ #[true, true, true, true, true, true, true, false, false, true, false, false] _ _
                    exact keyp301.out _ _ HS hH
              · intro bap W HS hH
                refine wpAnyH_ready (rs := [7, 9]) (by kernel_rfl) (by simp) ?_
                refine cons_at rfl (fun K hK => ?_) (cons_at rfl (fun K hK => ?_) AllReadyH.nil)
                · go_simp
                  go_at_call_of 31 p2
                  refine (G2.out _).mono ?_
                  rintro e w9 ⟨rfl, hb⟩
                  (try go_wp2_with fail)
                  replace HS := HS.step hb
                  clear hb hH
                  refine hK.out _ _ (by exact ⟨cell_of_row _ w.heap.size 0 _ _ _ (HS.kp _ _ (.inl ⟨rfl, rfl⟩)), cell_of_row _ w.heap.size 1 _ _ _ (HS.kp _ _ (.inl ⟨rfl, rfl⟩)), cell_of_row _ w.heap.size 2 _ _ _ (HS.kp _ _ (.inl ⟨rfl, rfl⟩)), cell_of_row _ w.heap.size 3 _ _ _ (HS.kp _ _ (.inl ⟨rfl, rfl⟩)), cell_of_row _ w.heap.size 4 _ _ _ (HS.kp _ _ (.inl ⟨rfl, rfl⟩)), cell_of_row _ w.heap.size 5 _ _ _ (HS.kp _ _ (.inl ⟨rfl, rfl⟩)), cell_of_row _ w.heap.size 6 _ _ _ (HS.kp _ _ (.inl ⟨rfl, rfl⟩)), cell_of_row _ w.heap.size 7 _ _ _ (HS.kp _ _ (.inl ⟨rfl, rfl⟩))⟩) (fun hH => ?_)
                  clear hK K
                  (try simp only [Act.put, List.setIfInBounds_toArray, List.set_cons_zero, List.set_cons_succ])
                  show wpAnyH _ _ _ _ _ _ #[true, true, true, true, true, true, true, true, true, false, false, false] _ _
                  revert hH HS
                  revert w9
                  revert bap
                  exact keyp410.out
                · go_simp
                  replace HS := GSt.allocB (.cells #[.int .i64 0, .int .i64 0, .int .i64 0, .int .i64 0] 33) (fun W => heap_alloc_new W _) HS
                  clear hH
                  refine hK.out _ _ (by exact ⟨cell_of_row _ w.heap.size 0 _ _ _ (HS.kp _ _ (.inl ⟨rfl, rfl⟩)), cell_of_row _ w.heap.size 1 _ _ _ (HS.kp _ _ (.inl ⟨rfl, rfl⟩)), cell_of_row _ w.heap.size 2 _ _ _ (HS.kp _ _ (.inl ⟨rfl, rfl⟩)), cell_of_row _ w.heap.size 3 _ _ _ (HS.kp _ _ (.inl ⟨rfl, rfl⟩)), cell_of_row _ w.heap.size 4 _ _ _ (HS.kp _ _ (.inl ⟨rfl, rfl⟩)), cell_of_row _ w.heap.size 5 _ _ _ (HS.kp _ _ (.inl ⟨rfl, rfl⟩)), cell_of_row _ w.heap.size 6 _ _ _ (HS.kp _ _ (.inl ⟨rfl, rfl⟩)), cell_of_row _ w.heap.size 7 _ _ _ (HS.kp _ _ (.inl ⟨rfl, rfl⟩))⟩) (fun hH => ?_)
                  clear hK K
                  (try simp only [Act.put, List.setIfInBounds_toArray, List.set_cons_zero, List.set_cons_succ])
                  show wpAnyH _ _ _ _ _ _ #[true, true, true, true, true, true, true, false, true, true, false, false] _ _
                  exact keyp311.out _ _ _ HS hH
            · intro bbp W HS hH
              refine wpAnyH_ready (rs := [7, 8]) (by kernel_rfl) (by simp) ?_
              refine cons_at rfl (fun K hK => ?_) (cons_at rfl (fun K hK => ?_) AllReadyH.nil)
              · go_simp
                go_at_call_of 31 p2
                refine (G2.out _).mono ?_
                rintro e w9 ⟨rfl, hb⟩
                (try go_wp2_with fail)
                replace HS := HS.step hb
                clear hb hH
                refine hK.out _ _ (by exact ⟨cell_of_row _ w.heap.size 0 _ _ _ (HS.kp _ _ (.inl ⟨rfl, rfl⟩)), cell_of_row _ w.heap.size 1 _ _ _ (HS.kp _ _ (.inl ⟨rfl, rfl⟩)), cell_of_row _ w.heap.size 2 _ _ _ (HS.kp _ _ (.inl ⟨rfl, rfl⟩)), cell_of_row _ w.heap.size 3 _ _ _ (HS.kp _ _ (.inl ⟨rfl, rfl⟩)), cell_of_row _ w.heap.size 4 _ _ _ (HS.kp _ _ (.inl ⟨rfl, rfl⟩)), cell_of_row _ w.heap.size 5 _ _ _ (HS.kp _ _ (.inl ⟨rfl, rfl⟩)), cell_of_row _ w.heap.size 6 _ _ _ (HS.kp _ _ (.inl ⟨rfl, rfl⟩)), cell_of_row _ w.heap.size 7 _ _ _ (HS.kp _ _ (.inl ⟨rfl, rfl⟩))⟩) (fun hH => ?_)
                clear hK K
                (try simp only [Act.put, List.setIfInBounds_toArray, List.set_cons_zero, List.set_cons_succ])
                show wpAnyH _ _ _ _ _ _ #[true, true, true, true, true, true, true, true, false, true, false, false] _ _
                revert hH HS
                revert w9
                revert bbp
                exact keyp401.out
              · go_simp
                replace HS := GSt.allocA (.cells #[.int .i64 0, .int .i64 0, .int .i64 0, .int .i64 0] 33) (fun W => heap_alloc_new W _) HS
                clear hH
                refine hK.out _ _ (by exact ⟨cell_of_row _ w.heap.size 0 _ _ _ (HS.kp _ _ (.inl ⟨rfl, rfl⟩)), cell_of_row _ w.heap.size 1 _ _ _ (HS.kp _ _ (.inl ⟨rfl, rfl⟩)), cell_of_row _ w.heap.size 2 _ _ _ (HS.kp _ _ (.inl ⟨rfl, rfl⟩)), cell_of_row _ w.heap.size 3 _ _ _ (HS.kp _ _ (.inl ⟨rfl, rfl⟩)), cell_of_row _ w.heap.size 4 _ _ _ (HS.kp _ _ (.inl ⟨rfl, rfl⟩)), cell_of_row _ w.heap.size 5 _ _ _ (HS.kp _ _ (.inl ⟨rfl, rfl⟩)), cell_of_row _ w.heap.size 6 _ _ _ (HS.kp _ _ (.inl ⟨rfl, rfl⟩)), cell_of_row _ w.heap.size 7 _ _ _ (HS.kp _ _ (.inl ⟨rfl, rfl⟩))⟩) (fun hH => ?_)
                clear hK K
                (try simp only [Act.put, List.setIfInBounds_toArray, List.set_cons_zero, List.set_cons_succ])
                show wpAnyH _ _ _ _ _ _ #[true, true, true, true, true, true, true, false, true, true, false, false] _ _
                exact keyp311.out _ _ _ HS hH
          · intro bap bbp W HS hH
            refine wpAnyH_ready (rs := [7]) (by kernel_rfl) (by simp) ?_
            refine cons_at rfl (fun K hK => ?_) AllReadyH.nil
            · go_simp
              go_at_call_of 31 p2
              refine (G2.out _).mono ?_
              rintro e w9 ⟨rfl, hb⟩
              (try go_wp2_with fail)
              replace HS := HS.step hb
              clear hb hH
              refine hK.out _ _ (by exact ⟨cell_of_row _ w.heap.size 0 _ _ _ (HS.kp _ _ (.inl ⟨rfl, rfl⟩)), cell_of_row _ w.heap.size 1 _ _ _ (HS.kp _ _ (.inl ⟨rfl, rfl⟩)), cell_of_row _ w.heap.size 2 _ _ _ (HS.kp _ _ (.inl ⟨rfl, rfl⟩)), cell_of_row _ w.heap.size 3 _ _ _ (HS.kp _ _ (.inl ⟨rfl, rfl⟩)), cell_of_row _ w.heap.size 4 _ _ _ (HS.kp _ _ (.inl ⟨rfl, rfl⟩)), cell_of_row _ w.heap.size 5 _ _ _ (HS.kp _ _ (.inl ⟨rfl, rfl⟩)), cell_of_row _ w.heap.size 6 _ _ _ (HS.kp _ _ (.inl ⟨rfl, rfl⟩)), cell_of_row _ w.heap.size 7 _ _ _ (HS.kp _ _ (.inl ⟨rfl, rfl⟩))⟩) (fun hH => ?_)
              clear hK K
              (try simp only [Act.put, List.setIfInBounds_toArray, List.set_cons_zero, List.set_cons_succ])
              show wpAnyH _ _ _ _ _ _ #[true, true, true, true, true, true, true, true, true, true, false, false] _ _
              revert hH HS
              revert w9
              revert bbp
              revert bap
              exact keyp411.out
        · intro W HS hH
          refine wpAnyH_ready (rs := [8, 9]) (by kernel_rfl) (by simp) ?_
          refine cons_at rfl (fun K hK => ?_) (cons_at rfl (fun K hK => ?_) AllReadyH.nil)
          · go_simp
            replace HS := GSt.allocA (.cells #[.int .i64 0, .int .i64 0, .int .i64 0, .int .i64 0] 33) (fun W => heap_alloc_new W _) HS
            clear hH
            refine hK.out _ _ (by exact ⟨cell_of_row _ w.heap.size 0 _ _ _ (HS.kp _ _ (.inl ⟨rfl, rfl⟩)), cell_of_row _ w.heap.size 1 _ _ _ (HS.kp _ _ (.inl ⟨rfl, rfl⟩)), cell_of_row _ w.heap.size 2 _ _ _ (HS.kp _ _ (.inl ⟨rfl, rfl⟩)), cell_of_row _ w.heap.size 3 _ _ _ (HS.kp _ _ (.inl ⟨rfl, rfl⟩)), cell_of_row _ w.heap.size 4 _ _ _ (HS.kp _ _ (.inl ⟨rfl, rfl⟩)), cell_of_row _ w.heap.size 5 _ _ _ (HS.kp _ _ (.inl ⟨rfl, rfl⟩)), cell_of_row _ w.heap.size 6 _ _ _ (HS.kp _ _ (.inl ⟨rfl, rfl⟩)), cell_of_row _ w.heap.size 7 _ _ _ (HS.kp _ _ (.inl ⟨rfl, rfl⟩))⟩) (fun hH => ?_)
            clear hK K
            (try simp only [Act.put, List.setIfInBounds_toArray, List.set_cons_zero, List.set_cons_succ])
            show wpAnyH _ _ _ _ _ _ #[true, true, true, true, true, true, true, true, true, false, false, false] _ _
            exact keyp410.out _ _ HS hH
          · go_simp
            replace HS := GSt.allocB (.cells #[.int .i64 0, .int .i64 0, .int .i64 0, .int .i64 0] 33) (fun W => heap_alloc_new W _) HS
            clear hH
            refine hK.out _ _ (by exact ⟨cell_of_row _ w.heap.size 0 _ _ _ (HS.kp _ _ (.inl ⟨rfl, rfl⟩)), cell_of_row _ w.heap.size 1 _ _ _ (HS.kp _ _ (.inl ⟨rfl, rfl⟩)), cell_of_row _ w.heap.size 2 _ _ _ (HS.kp _ _ (.inl ⟨rfl, rfl⟩)), cell_of_row _ w.heap.size 3 _ _ _ (HS.kp _ _ (.inl ⟨rfl, rfl⟩)), cell_of_row _ w.heap.size 4 _ _ _ (HS.kp _ _ (.inl ⟨rfl, rfl⟩)), cell_of_row _ w.heap.size 5 _ _ _ (HS.kp _ _ (.inl ⟨rfl, rfl⟩)), cell_of_row _ w.heap.size 6 _ _ _ (HS.kp _ _ (.inl ⟨rfl, rfl⟩)), cell_of_row _ w.heap.size 7 _ _ _ (HS.kp _ _ (.inl ⟨rfl, rfl⟩))⟩) (fun hH => ?_)
            clear hK K
            (try simp only [Act.put, List.setIfInBounds_toArray, List.set_cons_zero, List.set_cons_succ])
            show wpAnyH _ _ _ _ _ _ #[true, true, true, true, true, true, true, true, false, true, false, false] _ _
            exact keyp401.out _ _ HS hH
      · intro bap W HS hH
        refine wpAnyH_ready (rs := [9]) (by kernel_rfl) (by simp) ?_
        refine cons_at rfl (fun K hK => ?_) AllReadyH.nil
        · go_simp
          replace HS := GSt.allocB (.cells #[.int .i64 0, .int .i64 0, .int .i64 0, .int .i64 0] 33) (fun W => heap_alloc_new W _) HS
          clear hH
          refine hK.out _ _ (by exact ⟨cell_of_row _ w.heap.size 0 _ _ _ (HS.kp _ _ (.inl ⟨rfl, rfl⟩)), cell_of_row _ w.heap.size 1 _ _ _ (HS.kp _ _ (.inl ⟨rfl, rfl⟩)), cell_of_row _ w.heap.size 2 _ _ _ (HS.kp _ _ (.inl ⟨rfl, rfl⟩)), cell_of_row _ w.heap.size 3 _ _ _ (HS.kp _ _ (.inl ⟨rfl, rfl⟩)), cell_of_row _ w.heap.size 4 _ _ _ (HS.kp _ _ (.inl ⟨rfl, rfl⟩)), cell_of_row _ w.heap.size 5 _ _ _ (HS.kp _ _ (.inl ⟨rfl, rfl⟩)), cell_of_row _ w.heap.size 6 _ _ _ (HS.kp _ _ (.inl ⟨rfl, rfl⟩)), cell_of_row _ w.heap.size 7 _ _ _ (HS.kp _ _ (.inl ⟨rfl, rfl⟩))⟩) (fun hH => ?_)
          clear hK K
          (try simp only [Act.put, List.setIfInBounds_toArray, List.set_cons_zero, List.set_cons_succ])
          show wpAnyH _ _ _ _ _ _ #[true, true, true, true, true, true, true, true, true, true, false, false] _ _
          exact keyp411.out _ _ _ HS hH
    · intro bbp W HS hH
      refine wpAnyH_ready (rs := [8]) (by kernel_rfl) (by simp) ?_
      refine cons_at rfl (fun K hK => ?_) AllReadyH.nil
      · go_simp
        replace HS := GSt.allocA (.cells #[.int .i64 0, .int .i64 0, .int .i64 0, .int .i64 0] 33) (fun W => heap_alloc_new W _) HS
        clear hH
        refine hK.out _ _ (by exact ⟨cell_of_row _ w.heap.size 0 _ _ _ (HS.kp _ _ (.inl ⟨rfl, rfl⟩)), cell_of_row _ w.heap.size 1 _ _ _ (HS.kp _ _ (.inl ⟨rfl, rfl⟩)), cell_of_row _ w.heap.size 2 _ _ _ (HS.kp _ _ (.inl ⟨rfl, rfl⟩)), cell_of_row _ w.heap.size 3 _ _ _ (HS.kp _ _ (.inl ⟨rfl, rfl⟩)), cell_of_row _ w.heap.size 4 _ _ _ (HS.kp _ _ (.inl ⟨rfl, rfl⟩)), cell_of_row _ w.heap.size 5 _ _ _ (HS.kp _ _ (.inl ⟨rfl, rfl⟩)), cell_of_row _ w.heap.size 6 _ _ _ (HS.kp _ _ (.inl ⟨rfl, rfl⟩)), cell_of_row _ w.heap.size 7 _ _ _ (HS.kp _ _ (.inl ⟨rfl, rfl⟩))⟩) (fun hH => ?_)
        clear hK K
        (try simp only [Act.put, List.setIfInBounds_toArray, List.set_cons_zero, List.set_cons_succ])
        show wpAnyH _ _ _ _ _ _ #[true, true, true, true, true, true, true, true, true, true, false, false] _ _
        exact keyp411.out _ _ _ HS hH
  · intro bap bbp W HS hH
    obtain ⟨hA, ca, na⟩ := HS.ha bap rfl
    obtain ⟨hBb, cb, nb⟩ := HS.hb bbp rfl
    have nab := HS.ne bap bbp rfl rfl
    have kp := HS.kp
    have hB := HS.B
    have za0 := cell_of_row _ bap 0 _ _ _ hA
    have fa0 := frozen_of 0 hA
    have za1 := cell_of_row _ bap 1 _ _ _ hA
    have fa1 := frozen_of 1 hA
    have za2 := cell_of_row _ bap 2 _ _ _ hA
    have fa2 := frozen_of 2 hA
    have za3 := cell_of_row _ bap 3 _ _ _ hA
    have fa3 := frozen_of 3 hA
    refine wpAnyH_ready (rs := [10]) (by kernel_rfl) (by simp) ?_
    refine cons_at rfl (fun K hK => ?_) AllReadyH.nil
    go_simp
    clear hH za0 fa0 za1 fa1 za2 fa2 za3 fa3
    replace kp : ∀ i9 o9, (KPa w (.cells #[.int .i64 a, .int .i64 b, .int .i64 c, .int .i64 d, .int .i64 a', .int .i64 b', .int .i64 c', .int .i64 d'] 48 (0, 0)) (.cells #[.int .i64 k, .int .i64 l, .int .i64 m, .int .i64 n, .bool o, .int .i64 k', .int .i64 l', .int .i64 m', .int .i64 n', .bool o'] 51 (0, 0))) i9 o9 → ((((W.setCell ⟨bap, 0, none⟩ (.int .i64 x0)).setCell ⟨bap, 1, none⟩ (.int .i64 x1)).setCell ⟨bap, 2, none⟩ (.int .i64 x2)).setCell ⟨bap, 3, none⟩ (.int .i64 x3)).heap[i9]? = some o9 := fun i9 o9 e9 => (put4_far (W := W) (n := bap) (na i9 o9 e9) (.int .i64 x0) (.int .i64 x1) (.int .i64 x2) (.int .i64 x3)).trans (kp i9 o9 e9)
    replace hBb := (put4_far (W := W) (n := bap) (Ne.symm nab) (.int .i64 x0) (.int .i64 x1) (.int .i64 x2) (.int .i64 x3)).trans hBb
    replace hA := put4_self hA (.int .i64 x0) (.int .i64 x1) (.int .i64 x2) (.int .i64 x3)
    replace hB := put4_below (n := bap) hB ca (.int .i64 x0) (.int .i64 x1) (.int .i64 x2) (.int .i64 x3)
    refine hK.out _ _ (by exact ⟨cell_of_row _ w.heap.size 0 _ _ _ (kp _ _ (.inl ⟨rfl, rfl⟩)), cell_of_row _ w.heap.size 1 _ _ _ (kp _ _ (.inl ⟨rfl, rfl⟩)), cell_of_row _ w.heap.size 2 _ _ _ (kp _ _ (.inl ⟨rfl, rfl⟩)), cell_of_row _ w.heap.size 3 _ _ _ (kp _ _ (.inl ⟨rfl, rfl⟩)), cell_of_row _ w.heap.size 4 _ _ _ (kp _ _ (.inl ⟨rfl, rfl⟩)), cell_of_row _ w.heap.size 5 _ _ _ (kp _ _ (.inl ⟨rfl, rfl⟩)), cell_of_row _ w.heap.size 6 _ _ _ (kp _ _ (.inl ⟨rfl, rfl⟩)), cell_of_row _ w.heap.size 7 _ _ _ (kp _ _ (.inl ⟨rfl, rfl⟩))⟩) (fun hH => ?_)
    clear hK K
    (try simp only [Act.put, List.setIfInBounds_toArray, List.set_cons_zero, List.set_cons_succ])
    generalize (((W.setCell ⟨bap, 0, none⟩ (.int .i64 x0)).setCell ⟨bap, 1, none⟩ (.int .i64 x1)).setCell ⟨bap, 2, none⟩ (.int .i64 x2)).setCell ⟨bap, 3, none⟩ (.int .i64 x3) = W8 at kp hA hBb hB hH ⊢
    have za0 := cell_of_row _ bbp 0 _ _ _ hBb
    have fa0 := frozen_of 0 hBb
    have za1 := cell_of_row _ bbp 1 _ _ _ hBb
    have fa1 := frozen_of 1 hBb
    have za2 := cell_of_row _ bbp 2 _ _ _ hBb
    have fa2 := frozen_of 2 hBb
    have za3 := cell_of_row _ bbp 3 _ _ _ hBb
    have fa3 := frozen_of 3 hBb
    refine wpAnyH_ready (rs := [11]) (by kernel_rfl) (by simp) ?_
    refine cons_at rfl (fun K hK => ?_) AllReadyH.nil
    go_simp
    clear hH za0 fa0 za1 fa1 za2 fa2 za3 fa3
    replace kp : ∀ i9 o9, (KPa w (.cells #[.int .i64 a, .int .i64 b, .int .i64 c, .int .i64 d, .int .i64 a', .int .i64 b', .int .i64 c', .int .i64 d'] 48 (0, 0)) (.cells #[.int .i64 k, .int .i64 l, .int .i64 m, .int .i64 n, .bool o, .int .i64 k', .int .i64 l', .int .i64 m', .int .i64 n', .bool o'] 51 (0, 0))) i9 o9 → ((((W8.setCell ⟨bbp, 0, none⟩ (.int .i64 y0)).setCell ⟨bbp, 1, none⟩ (.int .i64 y1)).setCell ⟨bbp, 2, none⟩ (.int .i64 y2)).setCell ⟨bbp, 3, none⟩ (.int .i64 y3)).heap[i9]? = some o9 := fun i9 o9 e9 => (put4_far (W := W8) (n := bbp) (nb i9 o9 e9) (.int .i64 y0) (.int .i64 y1) (.int .i64 y2) (.int .i64 y3)).trans (kp i9 o9 e9)
    replace hA := (put4_far (W := W8) (n := bbp) nab (.int .i64 y0) (.int .i64 y1) (.int .i64 y2) (.int .i64 y3)).trans hA
    replace hBb := put4_self hBb (.int .i64 y0) (.int .i64 y1) (.int .i64 y2) (.int .i64 y3)
    replace hB := put4_below (n := bbp) hB cb (.int .i64 y0) (.int .i64 y1) (.int .i64 y2) (.int .i64 y3)
    refine hK.out _ _ (by exact ⟨cell_of_row _ w.heap.size 0 _ _ _ (kp _ _ (.inl ⟨rfl, rfl⟩)), cell_of_row _ w.heap.size 1 _ _ _ (kp _ _ (.inl ⟨rfl, rfl⟩)), cell_of_row _ w.heap.size 2 _ _ _ (kp _ _ (.inl ⟨rfl, rfl⟩)), cell_of_row _ w.heap.size 3 _ _ _ (kp _ _ (.inl ⟨rfl, rfl⟩)), cell_of_row _ w.heap.size 4 _ _ _ (kp _ _ (.inl ⟨rfl, rfl⟩)), cell_of_row _ w.heap.size 5 _ _ _ (kp _ _ (.inl ⟨rfl, rfl⟩)), cell_of_row _ w.heap.size 6 _ _ _ (kp _ _ (.inl ⟨rfl, rfl⟩)), cell_of_row _ w.heap.size 7 _ _ _ (kp _ _ (.inl ⟨rfl, rfl⟩))⟩) (fun hH => ?_)
    clear hK K
    (try simp only [Act.put, List.setIfInBounds_toArray, List.set_cons_zero, List.set_cons_succ])
    generalize (((W8.setCell ⟨bbp, 0, none⟩ (.int .i64 y0)).setCell ⟨bbp, 1, none⟩ (.int .i64 y1)).setCell ⟨bbp, 2, none⟩ (.int .i64 y2)).setCell ⟨bbp, 3, none⟩ (.int .i64 y3) = W9 at kp hA hBb hB hH ⊢
    refine wpAnyH_done (by kernel_rfl) ?_ _
    refine NoPanic.normal ?_
    clear hH HS
    have HS1 : GSt w (KPb (KPa w (.cells #[.int .i64 a, .int .i64 b, .int .i64 c, .int .i64 d, .int .i64 a', .int .i64 b', .int .i64 c', .int .i64 d'] 48 (0, 0)) (.cells #[.int .i64 k, .int .i64 l, .int .i64 m, .int .i64 n, .bool o, .int .i64 k', .int .i64 l', .int .i64 m', .int .i64 n', .bool o'] 51 (0, 0))) bap (.cells #[.int .i64 x0, .int .i64 x1, .int .i64 x2, .int .i64 x3] 33 (0, 0)) bbp (.cells #[.int .i64 y0, .int .i64 y1, .int .i64 y2, .int .i64 y3] 33 (0, 0))) (fun fr => .cells #[.int .i64 0, .int .i64 0, .int .i64 0, .int .i64 0, .bool false] 50 fr) W9 none none := GSt.start (fun i9 o9 e9 => by
        rcases e9 with e9 | ⟨rfl, rfl⟩ | ⟨rfl, rfl⟩
        · exact kp i9 o9 e9
        · exact hA
        · exact hBb) hB
    clear kp hA hBb hB
    go_wp2
    have HS2 := HS1.drew
    clear HS1
    apply cutW
    · intro keyq411
      apply cutW
      · intro keyq401
        apply cutW
        · intro keyq410
          apply cutW
          · intro keyq400
            apply cutW
            · intro keyq311
              apply cutW
              · intro keyq301
                apply cutW
                · intro keyq310
                  apply cutW
                  · intro keyq300
                    apply cutW
                    · intro keyq211
                      apply cutW
                      · intro keyq201
                        apply cutW
                        · intro keyq210
                          apply cutW
                          · intro keyq200
                            apply cutW
                            · intro keyq111
                              apply cutW
                              · intro keyq101
                                apply cutW
                                · intro keyq110
                                  apply cutW
                                  · intro keyq100
                                    apply cutW
                                    · intro keyq011
                                      apply cutW
                                      · intro keyq001
                                        apply cutW
                                        · intro keyq010
                                          apply cutW
                                          · intro keyq000
                                            have HS := HS2
                                            refine wp_region_noPanic ?_
                                            refine wp_region_held_drew (S := (fun w' => w'.cell? ⟨w.heap.size + 1, 0, none⟩ = some (.int .i64 k) ∧ w'.cell? ⟨w.heap.size + 1, 1, none⟩ = some (.int .i64 l) ∧ w'.cell? ⟨w.heap.size + 1, 2, none⟩ = some (.int .i64 m) ∧ w'.cell? ⟨w.heap.size + 1, 3, none⟩ = some (.int .i64 n) ∧ w'.cell? ⟨w.heap.size + 1, 4, none⟩ = some (.bool o) ∧ w'.cell? ⟨w.heap.size + 1, 5, none⟩ = some (.int .i64 k') ∧ w'.cell? ⟨w.heap.size + 1, 6, none⟩ = some (.int .i64 l') ∧ w'.cell? ⟨w.heap.size + 1, 7, none⟩ = some (.int .i64 m') ∧ w'.cell? ⟨w.heap.size + 1, 8, none⟩ = some (.int .i64 n') ∧ w'.cell? ⟨w.heap.size + 1, 9, none⟩ = some (.bool o'))) (by kernel_rfl) (by exact ⟨cell_of_row _ (w.heap.size + 1) 0 _ _ _ (HS.kp _ _ (.inl (.inr ⟨rfl, rfl⟩))), cell_of_row _ (w.heap.size + 1) 1 _ _ _ (HS.kp _ _ (.inl (.inr ⟨rfl, rfl⟩))), cell_of_row _ (w.heap.size + 1) 2 _ _ _ (HS.kp _ _ (.inl (.inr ⟨rfl, rfl⟩))), cell_of_row _ (w.heap.size + 1) 3 _ _ _ (HS.kp _ _ (.inl (.inr ⟨rfl, rfl⟩))), cell_of_row _ (w.heap.size + 1) 4 _ _ _ (HS.kp _ _ (.inl (.inr ⟨rfl, rfl⟩))), cell_of_row _ (w.heap.size + 1) 5 _ _ _ (HS.kp _ _ (.inl (.inr ⟨rfl, rfl⟩))), cell_of_row _ (w.heap.size + 1) 6 _ _ _ (HS.kp _ _ (.inl (.inr ⟨rfl, rfl⟩))), cell_of_row _ (w.heap.size + 1) 7 _ _ _ (HS.kp _ _ (.inl (.inr ⟨rfl, rfl⟩))), cell_of_row _ (w.heap.size + 1) 8 _ _ _ (HS.kp _ _ (.inl (.inr ⟨rfl, rfl⟩))), cell_of_row _ (w.heap.size + 1) 9 _ _ _ (HS.kp _ _ (.inl (.inr ⟨rfl, rfl⟩)))⟩) (fun hH => ?_)
                                            refine take_at (i := 0) (v := ?_) rfl (by kernel_rfl) (by kernel_rfl) (by kernel_rfl) (fun _ _ _ h => h) (Or.inl ⟨by rfl, ?_⟩) hH ?_
                                            rotate_left
                                            · (intro w hSw; (try dsimp only at hSw); go_simp; (try with_reducible rfl))
                                            (try simp only [Act.put, List.setIfInBounds_toArray, List.set_cons_zero, List.set_cons_succ])
                                            refine take_at (i := 1) (v := ?_) rfl (by kernel_rfl) (by kernel_rfl) (by kernel_rfl) (fun _ _ _ h => h) (Or.inl ⟨by rfl, ?_⟩) hH ?_
                                            rotate_left
                                            · (intro w hSw; (try dsimp only at hSw); go_simp; (try with_reducible rfl))
                                            (try simp only [Act.put, List.setIfInBounds_toArray, List.set_cons_zero, List.set_cons_succ])
                                            refine take_at (i := 4) (v := ?_) rfl (by kernel_rfl) (by kernel_rfl) (by kernel_rfl) (fun _ _ _ h => h) (Or.inl ⟨by rfl, ?_⟩) hH ?_
                                            rotate_left
                                            · (intro w hSw; (try dsimp only at hSw); go_simp; (try with_reducible rfl))
                                            (try simp only [Act.put, List.setIfInBounds_toArray, List.set_cons_zero, List.set_cons_succ])
                                            refine take_at (i := 5) (v := ?_) rfl (by kernel_rfl) (by kernel_rfl) (by kernel_rfl) (fun _ _ _ h => h) (Or.inl ⟨by rfl, ?_⟩) hH ?_
                                            rotate_left
                                            · (intro w hSw; (try dsimp only at hSw); go_simp; (try with_reducible rfl))
                                            (try simp only [Act.put, List.setIfInBounds_toArray, List.set_cons_zero, List.set_cons_succ])
                                            show wpAnyH _ _ _ _ _ _ #[true, true, false, false, true, true, false, false, false, false, false, false] _ _
                                            revert hH HS
                                            generalize W9.drew = W9
                                            revert W9
                                            exact keyq000.out
                                          · intro W HS hH
                                            refine wpAnyH_ready (rs := [2, 8, 9]) (by kernel_rfl) (by simp) ?_
                                            refine cons_at rfl (fun K hK => ?_) (cons_at rfl (fun K hK => ?_) (cons_at rfl (fun K hK => ?_) AllReadyH.nil))
                                            · go_simp
                                              go_at_call_of 39 k
                                              refine (R3.out _).mono ?_
                                              rintro e w9 ⟨rfl, hb⟩
                                              (try go_wp2_with fail)
                                              replace HS := HS.step hb
                                              clear hb hH
                                              refine hK.out _ _ (by exact ⟨cell_of_row _ (w.heap.size + 1) 0 _ _ _ (HS.kp _ _ (.inl (.inr ⟨rfl, rfl⟩))), cell_of_row _ (w.heap.size + 1) 1 _ _ _ (HS.kp _ _ (.inl (.inr ⟨rfl, rfl⟩))), cell_of_row _ (w.heap.size + 1) 2 _ _ _ (HS.kp _ _ (.inl (.inr ⟨rfl, rfl⟩))), cell_of_row _ (w.heap.size + 1) 3 _ _ _ (HS.kp _ _ (.inl (.inr ⟨rfl, rfl⟩))), cell_of_row _ (w.heap.size + 1) 4 _ _ _ (HS.kp _ _ (.inl (.inr ⟨rfl, rfl⟩))), cell_of_row _ (w.heap.size + 1) 5 _ _ _ (HS.kp _ _ (.inl (.inr ⟨rfl, rfl⟩))), cell_of_row _ (w.heap.size + 1) 6 _ _ _ (HS.kp _ _ (.inl (.inr ⟨rfl, rfl⟩))), cell_of_row _ (w.heap.size + 1) 7 _ _ _ (HS.kp _ _ (.inl (.inr ⟨rfl, rfl⟩))), cell_of_row _ (w.heap.size + 1) 8 _ _ _ (HS.kp _ _ (.inl (.inr ⟨rfl, rfl⟩))), cell_of_row _ (w.heap.size + 1) 9 _ _ _ (HS.kp _ _ (.inl (.inr ⟨rfl, rfl⟩)))⟩) (fun hH => ?_)
                                              clear hK K
                                              (try simp only [Act.put, List.setIfInBounds_toArray, List.set_cons_zero, List.set_cons_succ])
                                              show wpAnyH _ _ _ _ _ _ #[true, true, true, false, true, true, false, false, false, false, false, false] _ _
                                              revert hH HS
                                              revert w9
                                              exact keyq100.out
                                            · go_simp
                                              replace HS := GSt.allocA (.cells #[.int .i64 0, .int .i64 0, .int .i64 0, .int .i64 0, .bool false] 50) (fun W => heap_alloc_new W _) HS
                                              clear hH
                                              refine hK.out _ _ (by exact ⟨cell_of_row _ (w.heap.size + 1) 0 _ _ _ (HS.kp _ _ (.inl (.inr ⟨rfl, rfl⟩))), cell_of_row _ (w.heap.size + 1) 1 _ _ _ (HS.kp _ _ (.inl (.inr ⟨rfl, rfl⟩))), cell_of_row _ (w.heap.size + 1) 2 _ _ _ (HS.kp _ _ (.inl (.inr ⟨rfl, rfl⟩))), cell_of_row _ (w.heap.size + 1) 3 _ _ _ (HS.kp _ _ (.inl (.inr ⟨rfl, rfl⟩))), cell_of_row _ (w.heap.size + 1) 4 _ _ _ (HS.kp _ _ (.inl (.inr ⟨rfl, rfl⟩))), cell_of_row _ (w.heap.size + 1) 5 _ _ _ (HS.kp _ _ (.inl (.inr ⟨rfl, rfl⟩))), cell_of_row _ (w.heap.size + 1) 6 _ _ _ (HS.kp _ _ (.inl (.inr ⟨rfl, rfl⟩))), cell_of_row _ (w.heap.size + 1) 7 _ _ _ (HS.kp _ _ (.inl (.inr ⟨rfl, rfl⟩))), cell_of_row _ (w.heap.size + 1) 8 _ _ _ (HS.kp _ _ (.inl (.inr ⟨rfl, rfl⟩))), cell_of_row _ (w.heap.size + 1) 9 _ _ _ (HS.kp _ _ (.inl (.inr ⟨rfl, rfl⟩)))⟩) (fun hH => ?_)
                                              clear hK K
                                              (try simp only [Act.put, List.setIfInBounds_toArray, List.set_cons_zero, List.set_cons_succ])
                                              show wpAnyH _ _ _ _ _ _ #[true, true, false, false, true, true, false, false, true, false, false, false] _ _
                                              revert hH HS
                                              generalize W.alloc (.cells #[.int .i64 0, .int .i64 0, .int .i64 0, .int .i64 0, .bool false] 50) = W9
                                              generalize W.heap.size = baq
                                              revert W9
                                              revert baq
                                              exact keyq010.out
                                            · go_simp
                                              replace HS := GSt.allocB (.cells #[.int .i64 0, .int .i64 0, .int .i64 0, .int .i64 0, .bool false] 50) (fun W => heap_alloc_new W _) HS
                                              clear hH
                                              refine hK.out _ _ (by exact ⟨cell_of_row _ (w.heap.size + 1) 0 _ _ _ (HS.kp _ _ (.inl (.inr ⟨rfl, rfl⟩))), cell_of_row _ (w.heap.size + 1) 1 _ _ _ (HS.kp _ _ (.inl (.inr ⟨rfl, rfl⟩))), cell_of_row _ (w.heap.size + 1) 2 _ _ _ (HS.kp _ _ (.inl (.inr ⟨rfl, rfl⟩))), cell_of_row _ (w.heap.size + 1) 3 _ _ _ (HS.kp _ _ (.inl (.inr ⟨rfl, rfl⟩))), cell_of_row _ (w.heap.size + 1) 4 _ _ _ (HS.kp _ _ (.inl (.inr ⟨rfl, rfl⟩))), cell_of_row _ (w.heap.size + 1) 5 _ _ _ (HS.kp _ _ (.inl (.inr ⟨rfl, rfl⟩))), cell_of_row _ (w.heap.size + 1) 6 _ _ _ (HS.kp _ _ (.inl (.inr ⟨rfl, rfl⟩))), cell_of_row _ (w.heap.size + 1) 7 _ _ _ (HS.kp _ _ (.inl (.inr ⟨rfl, rfl⟩))), cell_of_row _ (w.heap.size + 1) 8 _ _ _ (HS.kp _ _ (.inl (.inr ⟨rfl, rfl⟩))), cell_of_row _ (w.heap.size + 1) 9 _ _ _ (HS.kp _ _ (.inl (.inr ⟨rfl, rfl⟩)))⟩) (fun hH => ?_)
                                              clear hK K
                                              (try simp only [Act.put, List.setIfInBounds_toArray, List.set_cons_zero, List.set_cons_succ])
                                              show wpAnyH _ _ _ _ _ _ #[true, true, false, false, true, true, false, false, false, true, false, false] _ _
                                              revert hH HS
                                              generalize W.alloc (.cells #[.int .i64 0, .int .i64 0, .int .i64 0, .int .i64 0, .bool false] 50) = W9
                                              generalize W.heap.size = bbq
                                              revert W9
                                              revert bbq
                                              exact keyq001.out
                                        · intro baq W HS hH
                                          refine wpAnyH_ready (rs := [2, 9]) (by kernel_rfl) (by simp) ?_
                                          refine cons_at rfl (fun K hK => ?_) (cons_at rfl (fun K hK => ?_) AllReadyH.nil)
                                          · go_simp
                                            go_at_call_of 39 k
                                            refine (R3.out _).mono ?_
                                            rintro e w9 ⟨rfl, hb⟩
                                            (try go_wp2_with fail)
                                            replace HS := HS.step hb
                                            clear hb hH
                                            refine hK.out _ _ (by exact ⟨cell_of_row _ (w.heap.size + 1) 0 _ _ _ (HS.kp _ _ (.inl (.inr ⟨rfl, rfl⟩))), cell_of_row _ (w.heap.size + 1) 1 _ _ _ (HS.kp _ _ (.inl (.inr ⟨rfl, rfl⟩))), cell_of_row _ (w.heap.size + 1) 2 _ _ _ (HS.kp _ _ (.inl (.inr ⟨rfl, rfl⟩))), cell_of_row _ (w.heap.size + 1) 3 _ _ _ (HS.kp _ _ (.inl (.inr ⟨rfl, rfl⟩))), cell_of_row _ (w.heap.size + 1) 4 _ _ _ (HS.kp _ _ (.inl (.inr ⟨rfl, rfl⟩))), cell_of_row _ (w.heap.size + 1) 5 _ _ _ (HS.kp _ _ (.inl (.inr ⟨rfl, rfl⟩))), cell_of_row _ (w.heap.size + 1) 6 _ _ _ (HS.kp _ _ (.inl (.inr ⟨rfl, rfl⟩))), cell_of_row _ (w.heap.size + 1) 7 _ _ _ (HS.kp _ _ (.inl (.inr ⟨rfl, rfl⟩))), cell_of_row _ (w.heap.size + 1) 8 _ _ _ (HS.kp _ _ (.inl (.inr ⟨rfl, rfl⟩))), cell_of_row _ (w.heap.size + 1) 9 _ _ _ (HS.kp _ _ (.inl (.inr ⟨rfl, rfl⟩)))⟩) (fun hH => ?_)
                                            clear hK K
                                            (try simp only [Act.put, List.setIfInBounds_toArray, List.set_cons_zero, List.set_cons_succ])
                                            show wpAnyH _ _ _ _ _ _ #[true, true, true, false, true, true, false, false, true, false, false, false] _ _
                                            revert hH HS
                                            revert w9
                                            revert baq
                                            exact keyq110.out
                                          · go_simp
                                            replace HS := GSt.allocB (.cells #[.int .i64 0, .int .i64 0, .int .i64 0, .int .i64 0, .bool false] 50) (fun W => heap_alloc_new W _) HS
                                            clear hH
                                            refine hK.out _ _ (by exact ⟨cell_of_row _ (w.heap.size + 1) 0 _ _ _ (HS.kp _ _ (.inl (.inr ⟨rfl, rfl⟩))), cell_of_row _ (w.heap.size + 1) 1 _ _ _ (HS.kp _ _ (.inl (.inr ⟨rfl, rfl⟩))), cell_of_row _ (w.heap.size + 1) 2 _ _ _ (HS.kp _ _ (.inl (.inr ⟨rfl, rfl⟩))), cell_of_row _ (w.heap.size + 1) 3 _ _ _ (HS.kp _ _ (.inl (.inr ⟨rfl, rfl⟩))), cell_of_row _ (w.heap.size + 1) 4 _ _ _ (HS.kp _ _ (.inl (.inr ⟨rfl, rfl⟩))), cell_of_row _ (w.heap.size + 1) 5 _ _ _ (HS.kp _ _ (.inl (.inr ⟨rfl, rfl⟩))), cell_of_row _ (w.heap.size + 1) 6 _ _ _ (HS.kp _ _ (.inl (.inr ⟨rfl, rfl⟩))), cell_of_row _ (w.heap.size + 1) 7 _ _ _ (HS.kp _ _ (.inl (.inr ⟨rfl, rfl⟩))), cell_of_row _ (w.heap.size + 1) 8 _ _ _ (HS.kp _ _ (.inl (.inr ⟨rfl, rfl⟩))), cell_of_row _ (w.heap.size + 1) 9 _ _ _ (HS.kp _ _ (.inl (.inr ⟨rfl, rfl⟩)))⟩) (fun hH => ?_)
                                            clear hK K
                                            (try simp only [Act.put, List.setIfInBounds_toArray, List.set_cons_zero, List.set_cons_succ])
                                            show wpAnyH _ _ _ _ _ _ #[true, true, false, false, true, true, false, false, true, true, false, false] _ _
                                            revert hH HS
                                            generalize W.alloc (.cells #[.int .i64 0, .int .i64 0, .int .i64 0, .int .i64 0, .bool false] 50) = W9
                                            generalize W.heap.size = bbq
                                            revert W9
                                            revert bbq
                                            revert baq
                                            exact keyq011.out
                                      · intro bbq W HS hH
                                        refine wpAnyH_ready (rs := [2, 8]) (by kernel_rfl) (by simp) ?_
                                        refine cons_at rfl (fun K hK => ?_) (cons_at rfl (fun K hK => ?_) AllReadyH.nil)
                                        · go_simp
                                          go_at_call_of 39 k
                                          refine (R3.out _).mono ?_
                                          rintro e w9 ⟨rfl, hb⟩
                                          (try go_wp2_with fail)
                                          replace HS := HS.step hb
                                          clear hb hH
                                          refine hK.out _ _ (by exact ⟨cell_of_row _ (w.heap.size + 1) 0 _ _ _ (HS.kp _ _ (.inl (.inr ⟨rfl, rfl⟩))), cell_of_row _ (w.heap.size + 1) 1 _ _ _ (HS.kp _ _ (.inl (.inr ⟨rfl, rfl⟩))), cell_of_row _ (w.heap.size + 1) 2 _ _ _ (HS.kp _ _ (.inl (.inr ⟨rfl, rfl⟩))), cell_of_row _ (w.heap.size + 1) 3 _ _ _ (HS.kp _ _ (.inl (.inr ⟨rfl, rfl⟩))), cell_of_row _ (w.heap.size + 1) 4 _ _ _ (HS.kp _ _ (.inl (.inr ⟨rfl, rfl⟩))), cell_of_row _ (w.heap.size + 1) 5 _ _ _ (HS.kp _ _ (.inl (.inr ⟨rfl, rfl⟩))), cell_of_row _ (w.heap.size + 1) 6 _ _ _ (HS.kp _ _ (.inl (.inr ⟨rfl, rfl⟩))), cell_of_row _ (w.heap.size + 1) 7 _ _ _ (HS.kp _ _ (.inl (.inr ⟨rfl, rfl⟩))), cell_of_row _ (w.heap.size + 1) 8 _ _ _ (HS.kp _ _ (.inl (.inr ⟨rfl, rfl⟩))), cell_of_row _ (w.heap.size + 1) 9 _ _ _ (HS.kp _ _ (.inl (.inr ⟨rfl, rfl⟩)))⟩) (fun hH => ?_)
                                          clear hK K
                                          (try simp only [Act.put, List.setIfInBounds_toArray, List.set_cons_zero, List.set_cons_succ])
                                          show wpAnyH _ _ _ _ _ _ #[true, true, true, false, true, true, false, false, false, true, false, false] _ _
                                          revert hH HS
                                          revert w9
                                          revert bbq
                                          exact keyq101.out
                                        · go_simp
                                          replace HS := GSt.allocA (.cells #[.int .i64 0, .int .i64 0, .int .i64 0, .int .i64 0, .bool false] 50) (fun W => heap_alloc_new W _) HS
                                          clear hH
                                          refine hK.out _ _ (by exact ⟨cell_of_row _ (w.heap.size + 1) 0 _ _ _ (HS.kp _ _ (.inl (.inr ⟨rfl, rfl⟩))), cell_of_row _ (w.heap.size + 1) 1 _ _ _ (HS.kp _ _ (.inl (.inr ⟨rfl, rfl⟩))), cell_of_row _ (w.heap.size + 1) 2 _ _ _ (HS.kp _ _ (.inl (.inr ⟨rfl, rfl⟩))), cell_of_row _ (w.heap.size + 1) 3 _ _ _ (HS.kp _ _ (.inl (.inr ⟨rfl, rfl⟩))), cell_of_row _ (w.heap.size + 1) 4 _ _ _ (HS.kp _ _ (.inl (.inr ⟨rfl, rfl⟩))), cell_of_row _ (w.heap.size + 1) 5 _ _ _ (HS.kp _ _ (.inl (.inr ⟨rfl, rfl⟩))), cell_of_row _ (w.heap.size + 1) 6 _ _ _ (HS.kp _ _ (.inl (.inr ⟨rfl, rfl⟩))), cell_of_row _ (w.heap.size + 1) 7 _ _ _ (HS.kp _ _ (.inl (.inr ⟨rfl, rfl⟩))), cell_of_row _ (w.heap.size + 1) 8 _ _ _ (HS.kp _ _ (.inl (.inr ⟨rfl, rfl⟩))), cell_of_row _ (w.heap.size + 1) 9 _ _ _ (HS.kp _ _ (.inl (.inr ⟨rfl, rfl⟩)))⟩) (fun hH => ?_)
                                          clear hK K
                                          (try simp only [Act.put, List.setIfInBounds_toArray, List.set_cons_zero, List.set_cons_succ])
                                          show wpAnyH _ _ _ _ _ _ #[true, true, false, false, true, true, false, false, true, true, false, false] _ _
                                          exact keyq011.out _ _ _ HS hH
                                    · intro baq bbq W HS hH
                                      refine wpAnyH_ready (rs := [2]) (by kernel_rfl) (by simp) ?_
                                      refine cons_at rfl (fun K hK => ?_) AllReadyH.nil
                                      · go_simp
                                        go_at_call_of 39 k
                                        refine (R3.out _).mono ?_
                                        rintro e w9 ⟨rfl, hb⟩
                                        (try go_wp2_with fail)
                                        replace HS := HS.step hb
                                        clear hb hH
                                        refine hK.out _ _ (by exact ⟨cell_of_row _ (w.heap.size + 1) 0 _ _ _ (HS.kp _ _ (.inl (.inr ⟨rfl, rfl⟩))), cell_of_row _ (w.heap.size + 1) 1 _ _ _ (HS.kp _ _ (.inl (.inr ⟨rfl, rfl⟩))), cell_of_row _ (w.heap.size + 1) 2 _ _ _ (HS.kp _ _ (.inl (.inr ⟨rfl, rfl⟩))), cell_of_row _ (w.heap.size + 1) 3 _ _ _ (HS.kp _ _ (.inl (.inr ⟨rfl, rfl⟩))), cell_of_row _ (w.heap.size + 1) 4 _ _ _ (HS.kp _ _ (.inl (.inr ⟨rfl, rfl⟩))), cell_of_row _ (w.heap.size + 1) 5 _ _ _ (HS.kp _ _ (.inl (.inr ⟨rfl, rfl⟩))), cell_of_row _ (w.heap.size + 1) 6 _ _ _ (HS.kp _ _ (.inl (.inr ⟨rfl, rfl⟩))), cell_of_row _ (w.heap.size + 1) 7 _ _ _ (HS.kp _ _ (.inl (.inr ⟨rfl, rfl⟩))), cell_of_row _ (w.heap.size + 1) 8 _ _ _ (HS.kp _ _ (.inl (.inr ⟨rfl, rfl⟩))), cell_of_row _ (w.heap.size + 1) 9 _ _ _ (HS.kp _ _ (.inl (.inr ⟨rfl, rfl⟩)))⟩) (fun hH => ?_)
                                        clear hK K
                                        (try simp only [Act.put, List.setIfInBounds_toArray, List.set_cons_zero, List.set_cons_succ])
                                        show wpAnyH _ _ _ _ _ _ #[true, true, true, false, true, true, false, false, true, true, false, false] _ _
                                        revert hH HS
                                        revert w9
                                        revert bbq
                                        revert baq
                                        exact keyq111.out
                                  · intro W HS hH
                                    refine wpAnyH_ready (rs := [3, 8, 9]) (by kernel_rfl) (by simp) ?_
                                    refine cons_at rfl (fun K hK => ?_) (cons_at rfl (fun K hK => ?_) (cons_at rfl (fun K hK => ?_) AllReadyH.nil))
                                    · go_simp
                                      go_at_call_of 38 p3
                                      refine (G3.out _).mono ?_
                                      rintro e w9 ⟨rfl, hb⟩
                                      (try go_wp2_with fail)
                                      replace HS := HS.step hb
                                      clear hb hH
                                      refine hK.out _ _ (by exact ⟨cell_of_row _ (w.heap.size + 1) 0 _ _ _ (HS.kp _ _ (.inl (.inr ⟨rfl, rfl⟩))), cell_of_row _ (w.heap.size + 1) 1 _ _ _ (HS.kp _ _ (.inl (.inr ⟨rfl, rfl⟩))), cell_of_row _ (w.heap.size + 1) 2 _ _ _ (HS.kp _ _ (.inl (.inr ⟨rfl, rfl⟩))), cell_of_row _ (w.heap.size + 1) 3 _ _ _ (HS.kp _ _ (.inl (.inr ⟨rfl, rfl⟩))), cell_of_row _ (w.heap.size + 1) 4 _ _ _ (HS.kp _ _ (.inl (.inr ⟨rfl, rfl⟩))), cell_of_row _ (w.heap.size + 1) 5 _ _ _ (HS.kp _ _ (.inl (.inr ⟨rfl, rfl⟩))), cell_of_row _ (w.heap.size + 1) 6 _ _ _ (HS.kp _ _ (.inl (.inr ⟨rfl, rfl⟩))), cell_of_row _ (w.heap.size + 1) 7 _ _ _ (HS.kp _ _ (.inl (.inr ⟨rfl, rfl⟩))), cell_of_row _ (w.heap.size + 1) 8 _ _ _ (HS.kp _ _ (.inl (.inr ⟨rfl, rfl⟩))), cell_of_row _ (w.heap.size + 1) 9 _ _ _ (HS.kp _ _ (.inl (.inr ⟨rfl, rfl⟩)))⟩) (fun hH => ?_)
                                      clear hK K
                                      (try simp only [Act.put, List.setIfInBounds_toArray, List.set_cons_zero, List.set_cons_succ])
                                      show wpAnyH _ _ _ _ _ _ #[true, true, true, true, true, true, false, false, false, false, false, false] _ _
                                      revert hH HS
                                      revert w9
                                      exact keyq200.out
                                    · go_simp
                                      replace HS := GSt.allocA (.cells #[.int .i64 0, .int .i64 0, .int .i64 0, .int .i64 0, .bool false] 50) (fun W => heap_alloc_new W _) HS
                                      clear hH
                                      refine hK.out _ _ (by exact ⟨cell_of_row _ (w.heap.size + 1) 0 _ _ _ (HS.kp _ _ (.inl (.inr ⟨rfl, rfl⟩))), cell_of_row _ (w.heap.size + 1) 1 _ _ _ (HS.kp _ _ (.inl (.inr ⟨rfl, rfl⟩))), cell_of_row _ (w.heap.size + 1) 2 _ _ _ (HS.kp _ _ (.inl (.inr ⟨rfl, rfl⟩))), cell_of_row _ (w.heap.size + 1) 3 _ _ _ (HS.kp _ _ (.inl (.inr ⟨rfl, rfl⟩))), cell_of_row _ (w.heap.size + 1) 4 _ _ _ (HS.kp _ _ (.inl (.inr ⟨rfl, rfl⟩))), cell_of_row _ (w.heap.size + 1) 5 _ _ _ (HS.kp _ _ (.inl (.inr ⟨rfl, rfl⟩))), cell_of_row _ (w.heap.size + 1) 6 _ _ _ (HS.kp _ _ (.inl (.inr ⟨rfl, rfl⟩))), cell_of_row _ (w.heap.size + 1) 7 _ _ _ (HS.kp _ _ (.inl (.inr ⟨rfl, rfl⟩))), cell_of_row _ (w.heap.size + 1) 8 _ _ _ (HS.kp _ _ (.inl (.inr ⟨rfl, rfl⟩))), cell_of_row _ (w.heap.size + 1) 9 _ _ _ (HS.kp _ _ (.inl (.inr ⟨rfl, rfl⟩)))⟩) (fun hH => ?_)
                                      clear hK K
                                      (try simp only [Act.put, List.setIfInBounds_toArray, List.set_cons_zero, List.set_cons_succ])
                                      show wpAnyH _ _ _ _ _ _ #[true, true, true, false, true, true, false, false, true, false, false, false] _ _
                                      exact keyq110.out _ _ HS hH
                                    · go_simp
                                      replace HS := GSt.allocB (.cells #[.int .i64 0, .int .i64 0, .int .i64 0, .int .i64 0, .bool false] 50) (fun W => heap_alloc_new W _) HS
                                      clear hH
                                      refine hK.out _ _ (by exact ⟨cell_of_row _ (w.heap.size + 1) 0 _ _ _ (HS.kp _ _ (.inl (.inr ⟨rfl, rfl⟩))), cell_of_row _ (w.heap.size + 1) 1 _ _ _ (HS.kp _ _ (.inl (.inr ⟨rfl, rfl⟩))), cell_of_row _ (w.heap.size + 1) 2 _ _ _ (HS.kp _ _ (.inl (.inr ⟨rfl, rfl⟩))), cell_of_row _ (w.heap.size + 1) 3 _ _ _ (HS.kp _ _ (.inl (.inr ⟨rfl, rfl⟩))), cell_of_row _ (w.heap.size + 1) 4 _ _ _ (HS.kp _ _ (.inl (.inr ⟨rfl, rfl⟩))), cell_of_row _ (w.heap.size + 1) 5 _ _ _ (HS.kp _ _ (.inl (.inr ⟨rfl, rfl⟩))), cell_of_row _ (w.heap.size + 1) 6 _ _ _ (HS.kp _ _ (.inl (.inr ⟨rfl, rfl⟩))), cell_of_row _ (w.heap.size + 1) 7 _ _ _ (HS.kp _ _ (.inl (.inr ⟨rfl, rfl⟩))), cell_of_row _ (w.heap.size + 1) 8 _ _ _ (HS.kp _ _ (.inl (.inr ⟨rfl, rfl⟩))), cell_of_row _ (w.heap.size + 1) 9 _ _ _ (HS.kp _ _ (.inl (.inr ⟨rfl, rfl⟩)))⟩) (fun hH => ?_)
                                      clear hK K
                                      (try simp only [Act.put, List.setIfInBounds_toArray, List.set_cons_zero, List.set_cons_succ])
                                      show wpAnyH _ _ _ _ _ _ #[true, true, true, false, true, true, false, false, false, true, false, false] _ _
                                      exact keyq101.out _ _ HS hH
                                · intro baq W HS hH
                                  refine wpAnyH_ready (rs := [3, 9]) (by kernel_rfl) (by simp) ?_
                                  refine cons_at rfl (fun K hK => ?_) (cons_at rfl (fun K hK => ?_) AllReadyH.nil)
                                  · go_simp
                                    go_at_call_of 38 p3
                                    refine (G3.out _).mono ?_
                                    rintro e w9 ⟨rfl, hb⟩
                                    (try go_wp2_with fail)
                                    replace HS := HS.step hb
                                    clear hb hH
                                    refine hK.out _ _ (by exact ⟨cell_of_row _ (w.heap.size + 1) 0 _ _ _ (HS.kp _ _ (.inl (.inr ⟨rfl, rfl⟩))), cell_of_row _ (w.heap.size + 1) 1 _ _ _ (HS.kp _ _ (.inl (.inr ⟨rfl, rfl⟩))), cell_of_row _ (w.heap.size + 1) 2 _ _ _ (HS.kp _ _ (.inl (.inr ⟨rfl, rfl⟩))), cell_of_row _ (w.heap.size + 1) 3 _ _ _ (HS.kp _ _ (.inl (.inr ⟨rfl, rfl⟩))), cell_of_row _ (w.heap.size + 1) 4 _ _ _ (HS.kp _ _ (.inl (.inr ⟨rfl, rfl⟩))), cell_of_row _ (w.heap.size + 1) 5 _ _ _ (HS.kp _ _ (.inl (.inr ⟨rfl, rfl⟩))), cell_of_row _ (w.heap.size + 1) 6 _ _ _ (HS.kp _ _ (.inl (.inr ⟨rfl, rfl⟩))), cell_of_row _ (w.heap.size + 1) 7 _ _ _ (HS.kp _ _ (.inl (.inr ⟨rfl, rfl⟩))), cell_of_row _ (w.heap.size + 1) 8 _ _ _ (HS.kp _ _ (.inl (.inr ⟨rfl, rfl⟩))), cell_of_row _ (w.heap.size + 1) 9 _ _ _ (HS.kp _ _ (.inl (.inr ⟨rfl, rfl⟩)))⟩) (fun hH => ?_)
                                    clear hK K
                                    (try simp only [Act.put, List.setIfInBounds_toArray, List.set_cons_zero, List.set_cons_succ])
                                    show wpAnyH _ _ _ _ _ _ #[true, true, true, true, true, true, false, false, true, false, false, false] _ _
                                    revert hH HS
                                    revert w9
                                    revert baq
                                    exact keyq210.out
                                  · go_simp
                                    replace HS := GSt.allocB (.cells #[.int .i64 0, .int .i64 0, .int .i64 0, .int .i64 0, .bool false] 50) (fun W => heap_alloc_new W _) HS
                                    clear hH
                                    refine hK.out _ _ (by exact ⟨cell_of_row _ (w.heap.size + 1) 0 _ _ _ (HS.kp _ _ (.inl (.inr ⟨rfl, rfl⟩))), cell_of_row _ (w.heap.size + 1) 1 _ _ _ (HS.kp _ _ (.inl (.inr ⟨rfl, rfl⟩))), cell_of_row _ (w.heap.size + 1) 2 _ _ _ (HS.kp _ _ (.inl (.inr ⟨rfl, rfl⟩))), cell_of_row _ (w.heap.size + 1) 3 _ _ _ (HS.kp _ _ (.inl (.inr ⟨rfl, rfl⟩))), cell_of_row _ (w.heap.size + 1) 4 _ _ _ (HS.kp _ _ (.inl (.inr ⟨rfl, rfl⟩))), cell_of_row _ (w.heap.size + 1) 5 _ _ _ (HS.kp _ _ (.inl (.inr ⟨rfl, rfl⟩))), cell_of_row _ (w.heap.size + 1) 6 _ _ _ (HS.kp _ _ (.inl (.inr ⟨rfl, rfl⟩))), cell_of_row _ (w.heap.size + 1) 7 _ _ _ (HS.kp _ _ (.inl (.inr ⟨rfl, rfl⟩))), cell_of_row _ (w.heap.size + 1) 8 _ _ _ (HS.kp _ _ (.inl (.inr ⟨rfl, rfl⟩))), cell_of_row _ (w.heap.size + 1) 9 _ _ _ (HS.kp _ _ (.inl (.inr ⟨rfl, rfl⟩)))⟩) (fun hH => ?_)
                                    clear hK K
                                    (try simp only [Act.put, List.setIfInBounds_toArray, List.set_cons_zero, List.set_cons_succ])
                                    show wpAnyH _ _ _ _ _ _ #[true, true, true, false, true, true, false, false, true, true, false, false] _ _
                                    exact keyq111.out _ _ _ HS hH
                              · intro bbq W HS hH
                                refine wpAnyH_ready (rs := [3, 8]) (by kernel_rfl) (by simp) ?_
                                refine cons_at rfl (fun K hK => ?_) (cons_at rfl (fun K hK => ?_) AllReadyH.nil)
                                · go_simp
                                  go_at_call_of 38 p3
                                  refine (G3.out _).mono ?_
                                  rintro e w9 ⟨rfl, hb⟩
                                  (try go_wp2_with fail)
                                  replace HS := HS.step hb
                                  clear hb hH
                                  refine hK.out _ _ (by exact ⟨cell_of_row _ (w.heap.size + 1) 0 _ _ _ (HS.kp _ _ (.inl (.inr ⟨rfl, rfl⟩))), cell_of_row _ (w.heap.size + 1) 1 _ _ _ (HS.kp _ _ (.inl (.inr ⟨rfl, rfl⟩))), cell_of_row _ (w.heap.size + 1) 2 _ _ _ (HS.kp _ _ (.inl (.inr ⟨rfl, rfl⟩))), cell_of_row _ (w.heap.size + 1) 3 _ _ _ (HS.kp _ _ (.inl (.inr ⟨rfl, rfl⟩))), cell_of_row _ (w.heap.size + 1) 4 _ _ _ (HS.kp _ _ (.inl (.inr ⟨rfl, rfl⟩))), cell_of_row _ (w.heap.size + 1) 5 _ _ _ (HS.kp _ _ (.inl (.inr ⟨rfl, rfl⟩))), cell_of_row _ (w.heap.size + 1) 6 _ _ _ (HS.kp _ _ (.inl (.inr ⟨rfl, rfl⟩))), cell_of_row _ (w.heap.size + 1) 7 _ _ _ (HS.kp _ _ (.inl (.inr ⟨rfl, rfl⟩))), cell_of_row _ (w.heap.size + 1) 8 _ _ _ (HS.kp _ _ (.inl (.inr ⟨rfl, rfl⟩))), cell_of_row _ (w.heap.size + 1) 9 _ _ _ (HS.kp _ _ (.inl (.inr ⟨rfl, rfl⟩)))⟩) (fun hH => ?_)
                                  clear hK K
                                  (try simp only [Act.put, List.setIfInBounds_toArray, List.set_cons_zero, List.set_cons_succ])
                                  show wpAnyH _ _ _ _ _ _ #[true, true, true, true, true, true, false, false, false, true, false, false] _ _
                                  revert hH HS
                                  revert w9
                                  revert bbq
                                  exact keyq201.out
                                · go_simp
                                  replace HS := GSt.allocA (.cells #[.int .i64 0, .int .i64 0, .int .i64 0, .int .i64 0, .bool false] 50) (fun W => heap_alloc_new W _) HS
                                  clear hH
                                  refine hK.out _ _ (by exact ⟨cell_of_row _ (w.heap.size + 1) 0 _ _ _ (HS.kp _ _ (.inl (.inr ⟨rfl, rfl⟩))), cell_of_row _ (w.heap.size + 1) 1 _ _ _ (HS.kp _ _ (.inl (.inr ⟨rfl, rfl⟩))), cell_of_row _ (w.heap.size + 1) 2 _ _ _ (HS.kp _ _ (.inl (.inr ⟨rfl, rfl⟩))), cell_of_row _ (w.heap.size + 1) 3 _ _ _ (HS.kp _ _ (.inl (.inr ⟨rfl, rfl⟩))), cell_of_row _ (w.heap.size + 1) 4 _ _ _ (HS.kp _ _ (.inl (.inr ⟨rfl, rfl⟩))), cell_of_row _ (w.heap.size + 1) 5 _ _ _ (HS.kp _ _ (.inl (.inr ⟨rfl, rfl⟩))), cell_of_row _ (w.heap.size + 1) 6 _ _ _ (HS.kp _ _ (.inl (.inr ⟨rfl, rfl⟩))), cell_of_row _ (w.heap.size + 1) 7 _ _ _ (HS.kp _ _ (.inl (.inr ⟨rfl, rfl⟩))), cell_of_row _ (w.heap.size + 1) 8 _ _ _ (HS.kp _ _ (.inl (.inr ⟨rfl, rfl⟩))), cell_of_row _ (w.heap.size + 1) 9 _ _ _ (HS.kp _ _ (.inl (.inr ⟨rfl, rfl⟩)))⟩) (fun hH => ?_)
                                  clear hK K
                                  (try simp only [Act.put, List.setIfInBounds_toArray, List.set_cons_zero, List.set_cons_succ])
                                  show wpAnyH _ _ _ _ _ _ #[true, true, true, false, true, true, false, false, true, true, false, false] _ _
                                  exact keyq111.out _ _ _ HS hH
                            · intro baq bbq W HS hH
                              refine wpAnyH_ready (rs := [3]) (by kernel_rfl) (by simp) ?_
                              refine cons_at rfl (fun K hK => ?_) AllReadyH.nil
                              · go_simp
                                go_at_call_of 38 p3
                                refine (G3.out _).mono ?_
                                rintro e w9 ⟨rfl, hb⟩
                                (try go_wp2_with fail)
                                replace HS := HS.step hb
                                clear hb hH
                                refine hK.out _ _ (by exact ⟨cell_of_row _ (w.heap.size + 1) 0 _ _ _ (HS.kp _ _ (.inl (.inr ⟨rfl, rfl⟩))), cell_of_row _ (w.heap.size + 1) 1 _ _ _ (HS.kp _ _ (.inl (.inr ⟨rfl, rfl⟩))), cell_of_row _ (w.heap.size + 1) 2 _ _ _ (HS.kp _ _ (.inl (.inr ⟨rfl, rfl⟩))), cell_of_row _ (w.heap.size + 1) 3 _ _ _ (HS.kp _ _ (.inl (.inr ⟨rfl, rfl⟩))), cell_of_row _ (w.heap.size + 1) 4 _ _ _ (HS.kp _ _ (.inl (.inr ⟨rfl, rfl⟩))), cell_of_row _ (w.heap.size + 1) 5 _ _ _ (HS.kp _ _ (.inl (.inr ⟨rfl, rfl⟩))), cell_of_row _ (w.heap.size + 1) 6 _ _ _ (HS.kp _ _ (.inl (.inr ⟨rfl, rfl⟩))), cell_of_row _ (w.heap.size + 1) 7 _ _ _ (HS.kp _ _ (.inl (.inr ⟨rfl, rfl⟩))), cell_of_row _ (w.heap.size + 1) 8 _ _ _ (HS.kp _ _ (.inl (.inr ⟨rfl, rfl⟩))), cell_of_row _ (w.heap.size + 1) 9 _ _ _ (HS.kp _ _ (.inl (.inr ⟨rfl, rfl⟩)))⟩) (fun hH => ?_)
                                clear hK K
                                (try simp only [Act.put, List.setIfInBounds_toArray, List.set_cons_zero, List.set_cons_succ])
                                show wpAnyH _ _ _ _ _ _ #[true, true, true, true, true, true, false, false, true, true, false, false] _ _
                                revert hH HS
                                revert w9
                                revert bbq
                                revert baq
                                exact keyq211.out
                          · intro W HS hH
                            refine wpAnyH_ready (rs := [6, 8, 9]) (by kernel_rfl) (by simp) ?_
                            refine cons_at rfl (fun K hK => ?_) (cons_at rfl (fun K hK => ?_) (cons_at rfl (fun K hK => ?_) AllReadyH.nil))
                            · go_simp
                              go_at_call_of 39 k'
                              refine (R4.out _).mono ?_
                              rintro e w9 ⟨rfl, hb⟩
                              (try go_wp2_with fail)
                              replace HS := HS.step hb
                              clear hb hH
                              refine hK.out _ _ (by exact ⟨cell_of_row _ (w.heap.size + 1) 0 _ _ _ (HS.kp _ _ (.inl (.inr ⟨rfl, rfl⟩))), cell_of_row _ (w.heap.size + 1) 1 _ _ _ (HS.kp _ _ (.inl (.inr ⟨rfl, rfl⟩))), cell_of_row _ (w.heap.size + 1) 2 _ _ _ (HS.kp _ _ (.inl (.inr ⟨rfl, rfl⟩))), cell_of_row _ (w.heap.size + 1) 3 _ _ _ (HS.kp _ _ (.inl (.inr ⟨rfl, rfl⟩))), cell_of_row _ (w.heap.size + 1) 4 _ _ _ (HS.kp _ _ (.inl (.inr ⟨rfl, rfl⟩))), cell_of_row _ (w.heap.size + 1) 5 _ _ _ (HS.kp _ _ (.inl (.inr ⟨rfl, rfl⟩))), cell_of_row _ (w.heap.size + 1) 6 _ _ _ (HS.kp _ _ (.inl (.inr ⟨rfl, rfl⟩))), cell_of_row _ (w.heap.size + 1) 7 _ _ _ (HS.kp _ _ (.inl (.inr ⟨rfl, rfl⟩))), cell_of_row _ (w.heap.size + 1) 8 _ _ _ (HS.kp _ _ (.inl (.inr ⟨rfl, rfl⟩))), cell_of_row _ (w.heap.size + 1) 9 _ _ _ (HS.kp _ _ (.inl (.inr ⟨rfl, rfl⟩)))⟩) (fun hH => ?_)
                              clear hK K
                              (try simp only [Act.put, List.setIfInBounds_toArray, List.set_cons_zero, List.set_cons_succ])
                              show wpAnyH _ _ _ _ _ _ #[true, true, true, true, true, true, true, false, false, false, false, false] _ _
                              revert hH HS
                              revert w9
                              exact keyq300.out
                            · go_simp
                              replace HS := GSt.allocA (.cells #[.int .i64 0, .int .i64 0, .int .i64 0, .int .i64 0, .bool false] 50) (fun W => heap_alloc_new W _) HS
                              clear hH
                              refine hK.out _ _ (by exact ⟨cell_of_row _ (w.heap.size + 1) 0 _ _ _ (HS.kp _ _ (.inl (.inr ⟨rfl, rfl⟩))), cell_of_row _ (w.heap.size + 1) 1 _ _ _ (HS.kp _ _ (.inl (.inr ⟨rfl, rfl⟩))), cell_of_row _ (w.heap.size + 1) 2 _ _ _ (HS.kp _ _ (.inl (.inr ⟨rfl, rfl⟩))), cell_of_row _ (w.heap.size + 1) 3 _ _ _ (HS.kp _ _ (.inl (.inr ⟨rfl, rfl⟩))), cell_of_row _ (w.heap.size + 1) 4 _ _ _ (HS.kp _ _ (.inl (.inr ⟨rfl, rfl⟩))), cell_of_row _ (w.heap.size + 1) 5 _ _ _ (HS.kp _ _ (.inl (.inr ⟨rfl, rfl⟩))), cell_of_row _ (w.heap.size + 1) 6 _ _ _ (HS.kp _ _ (.inl (.inr ⟨rfl, rfl⟩))), cell_of_row _ (w.heap.size + 1) 7 _ _ _ (HS.kp _ _ (.inl (.inr ⟨rfl, rfl⟩))), cell_of_row _ (w.heap.size + 1) 8 _ _ _ (HS.kp _ _ (.inl (.inr ⟨rfl, rfl⟩))), cell_of_row _ (w.heap.size + 1) 9 _ _ _ (HS.kp _ _ (.inl (.inr ⟨rfl, rfl⟩)))⟩) (fun hH => ?_)
                              clear hK K
                              (try simp only [Act.put, List.setIfInBounds_toArray, List.set_cons_zero, List.set_cons_succ])
                              show wpAnyH _ _ _ _ _ _ #[true, true, true, true, true, true, false, false, true, false, false, false] _ _
                              exact keyq210.out _ _ HS hH
                            · go_simp
                              replace HS := GSt.allocB (.cells #[.int .i64 0, .int .i64 0, .int .i64 0, .int .i64 0, .bool false] 50) (fun W => heap_alloc_new W _) HS
                              clear hH
                              refine hK.out _ _ (by exact ⟨cell_of_row _ (w.heap.size + 1) 0 _ _ _ (HS.kp _ _ (.inl (.inr ⟨rfl, rfl⟩))), cell_of_row _ (w.heap.size + 1) 1 _ _ _ (HS.kp _ _ (.inl (.inr ⟨rfl, rfl⟩))), cell_of_row _ (w.heap.size + 1) 2 _ _ _ (HS.kp _ _ (.inl (.inr ⟨rfl, rfl⟩))), cell_of_row _ (w.heap.size + 1) 3 _ _ _ (HS.kp _ _ (.inl (.inr ⟨rfl, rfl⟩))), cell_of_row _ (w.heap.size + 1) 4 _ _ _ (HS.kp _ _ (.inl (.inr ⟨rfl, rfl⟩))), cell_of_row _ (w.heap.size + 1) 5 _ _ _ (HS.kp _ _ (.inl (.inr ⟨rfl, rfl⟩))), cell_of_row _ (w.heap.size + 1) 6 _ _ _ (HS.kp _ _ (.inl (.inr ⟨rfl, rfl⟩))), cell_of_row _ (w.heap.size + 1) 7 _ _ _ (HS.kp _ _ (.inl (.inr ⟨rfl, rfl⟩))), cell_of_row _ (w.heap.size + 1) 8 _ _ _ (HS.kp _ _ (.inl (.inr ⟨rfl, rfl⟩))), cell_of_row _ (w.heap.size + 1) 9 _ _ _ (HS.kp _ _ (.inl (.inr ⟨rfl, rfl⟩)))⟩) (fun hH => ?_)
                              clear hK K
                              (try simp only [Act.put, List.setIfInBounds_toArray, List.set_cons_zero, List.set_cons_succ])
                              show wpAnyH _ _ _ _ _ _ #[true, true, true, true, true, true, false, false, false, true, false, false] _ _
                              exact keyq201.out _ _ HS hH
                        · intro baq W HS hH
                          refine wpAnyH_ready (rs := [6, 9]) (by kernel_rfl) (by simp) ?_
                          refine cons_at rfl (fun K hK => ?_) (cons_at rfl (fun K hK => ?_) AllReadyH.nil)
                          · go_simp
                            go_at_call_of 39 k'
                            refine (R4.out _).mono ?_
                            rintro e w9 ⟨rfl, hb⟩
                            (try go_wp2_with fail)
                            replace HS := HS.step hb
                            clear hb hH
                            refine hK.out _ _ (by exact ⟨cell_of_row _ (w.heap.size + 1) 0 _ _ _ (HS.kp _ _ (.inl (.inr ⟨rfl, rfl⟩))), cell_of_row _ (w.heap.size + 1) 1 _ _ _ (HS.kp _ _ (.inl (.inr ⟨rfl, rfl⟩))), cell_of_row _ (w.heap.size + 1) 2 _ _ _ (HS.kp _ _ (.inl (.inr ⟨rfl, rfl⟩))), cell_of_row _ (w.heap.size + 1) 3 _ _ _ (HS.kp _ _ (.inl (.inr ⟨rfl, rfl⟩))), cell_of_row _ (w.heap.size + 1) 4 _ _ _ (HS.kp _ _ (.inl (.inr ⟨rfl, rfl⟩))), cell_of_row _ (w.heap.size + 1) 5 _ _ _ (HS.kp _ _ (.inl (.inr ⟨rfl, rfl⟩))), cell_of_row _ (w.heap.size + 1) 6 _ _ _ (HS.kp _ _ (.inl (.inr ⟨rfl, rfl⟩))), cell_of_row _ (w.heap.size + 1) 7 _ _ _ (HS.kp _ _ (.inl (.inr ⟨rfl, rfl⟩))), cell_of_row _ (w.heap.size + 1) 8 _ _ _ (HS.kp _ _ (.inl (.inr ⟨rfl, rfl⟩))), cell_of_row _ (w.heap.size + 1) 9 _ _ _ (HS.kp _ _ (.inl (.inr ⟨rfl, rfl⟩)))⟩) (fun hH => ?_)
                            clear hK K
                            (try simp only [Act.put, List.setIfInBounds_toArray, List.set_cons_zero, List.set_cons_succ])
                            show wpAnyH _ _ _ _ _ _ #[true, true, true, true, true, true, true, false, true, false, false, false] _ _
                            revert hH HS
                            revert w9
                            revert baq
                            exact keyq310.out
                          · go_simp
                            replace HS := GSt.allocB (.cells #[.int .i64 0, .int .i64 0, .int .i64 0, .int .i64 0, .bool false] 50) (fun W => heap_alloc_new W _) HS
                            clear hH
                            refine hK.out _ _ (by exact ⟨cell_of_row _ (w.heap.size + 1) 0 _ _ _ (HS.kp _ _ (.inl (.inr ⟨rfl, rfl⟩))), cell_of_row _ (w.heap.size + 1) 1 _ _ _ (HS.kp _ _ (.inl (.inr ⟨rfl, rfl⟩))), cell_of_row _ (w.heap.size + 1) 2 _ _ _ (HS.kp _ _ (.inl (.inr ⟨rfl, rfl⟩))), cell_of_row _ (w.heap.size + 1) 3 _ _ _ (HS.kp _ _ (.inl (.inr ⟨rfl, rfl⟩))), cell_of_row _ (w.heap.size + 1) 4 _ _ _ (HS.kp _ _ (.inl (.inr ⟨rfl, rfl⟩))), cell_of_row _ (w.heap.size + 1) 5 _ _ _ (HS.kp _ _ (.inl (.inr ⟨rfl, rfl⟩))), cell_of_row _ (w.heap.size + 1) 6 _ _ _ (HS.kp _ _ (.inl (.inr ⟨rfl, rfl⟩))), cell_of_row _ (w.heap.size + 1) 7 _ _ _ (HS.kp _ _ (.inl (.inr ⟨rfl, rfl⟩))), cell_of_row _ (w.heap.size + 1) 8 _ _ _ (HS.kp _ _ (.inl (.inr ⟨rfl, rfl⟩))), cell_of_row _ (w.heap.size + 1) 9 _ _ _ (HS.kp _ _ (.inl (.inr ⟨rfl, rfl⟩)))⟩) (fun hH => ?_)
                            clear hK K
                            (try simp only [Act.put, List.setIfInBounds_toArray, List.set_cons_zero, List.set_cons_succ])
                            show wpAnyH _ _ _ _ _ _ #[true, true, true, true, true, true, false, false, true, true, false, false] _ _
                            exact keyq211.out _ _ _ HS hH
                      · intro bbq W HS hH
                        refine wpAnyH_ready (rs := [6, 8]) (by kernel_rfl) (by simp) ?_
                        refine cons_at rfl (fun K hK => ?_) (cons_at rfl (fun K hK => ?_) AllReadyH.nil)
                        · go_simp
                          go_at_call_of 39 k'
                          refine (R4.out _).mono ?_
                          rintro e w9 ⟨rfl, hb⟩
                          (try go_wp2_with fail)
                          replace HS := HS.step hb
                          clear hb hH
                          refine hK.out _ _ (by exact ⟨cell_of_row _ (w.heap.size + 1) 0 _ _ _ (HS.kp _ _ (.inl (.inr ⟨rfl, rfl⟩))), cell_of_row _ (w.heap.size + 1) 1 _ _ _ (HS.kp _ _ (.inl (.inr ⟨rfl, rfl⟩))), cell_of_row _ (w.heap.size + 1) 2 _ _ _ (HS.kp _ _ (.inl (.inr ⟨rfl, rfl⟩))), cell_of_row _ (w.heap.size + 1) 3 _ _ _ (HS.kp _ _ (.inl (.inr ⟨rfl, rfl⟩))), cell_of_row _ (w.heap.size + 1) 4 _ _ _ (HS.kp _ _ (.inl (.inr ⟨rfl, rfl⟩))), cell_of_row _ (w.heap.size + 1) 5 _ _ _ (HS.kp _ _ (.inl (.inr ⟨rfl, rfl⟩))), cell_of_row _ (w.heap.size + 1) 6 _ _ _ (HS.kp _ _ (.inl (.inr ⟨rfl, rfl⟩))), cell_of_row _ (w.heap.size + 1) 7 _ _ _ (HS.kp _ _ (.inl (.inr ⟨rfl, rfl⟩))), cell_of_row _ (w.heap.size + 1) 8 _ _ _ (HS.kp _ _ (.inl (.inr ⟨rfl, rfl⟩))), cell_of_row _ (w.heap.size + 1) 9 _ _ _ (HS.kp _ _ (.inl (.inr ⟨rfl, rfl⟩)))⟩) (fun hH => ?_)
                          clear hK K
                          (try simp only [Act.put, List.setIfInBounds_toArray, List.set_cons_zero, List.set_cons_succ])
                          show wpAnyH _ _ _ _ _ _ #[true, true, true, true, true, true, true, false, false, true, false, false] _ _
                          revert hH HS
                          revert w9
                          revert bbq
                          exact keyq301.out
                        · go_simp
                          replace HS := GSt.allocA (.cells #[.int .i64 0, .int .i64 0, .int .i64 0, .int .i64 0, .bool false] 50) (fun W => heap_alloc_new W _) HS
                          clear hH
                          refine hK.out _ _ (by exact ⟨cell_of_row _ (w.heap.size + 1) 0 _ _ _ (HS.kp _ _ (.inl (.inr ⟨rfl, rfl⟩))), cell_of_row _ (w.heap.size + 1) 1 _ _ _ (HS.kp _ _ (.inl (.inr ⟨rfl, rfl⟩))), cell_of_row _ (w.heap.size + 1) 2 _ _ _ (HS.kp _ _ (.inl (.inr ⟨rfl, rfl⟩))), cell_of_row _ (w.heap.size + 1) 3 _ _ _ (HS.kp _ _ (.inl (.inr ⟨rfl, rfl⟩))), cell_of_row _ (w.heap.size + 1) 4 _ _ _ (HS.kp _ _ (.inl (.inr ⟨rfl, rfl⟩))), cell_of_row _ (w.heap.size + 1) 5 _ _ _ (HS.kp _ _ (.inl (.inr ⟨rfl, rfl⟩))), cell_of_row _ (w.heap.size + 1) 6 _ _ _ (HS.kp _ _ (.inl (.inr ⟨rfl, rfl⟩))), cell_of_row _ (w.heap.size + 1) 7 _ _ _ (HS.kp _ _ (.inl (.inr ⟨rfl, rfl⟩))), cell_of_row _ (w.heap.size + 1) 8 _ _ _ (HS.kp _ _ (.inl (.inr ⟨rfl, rfl⟩))), cell_of_row _ (w.heap.size + 1) 9 _ _ _ (HS.kp _ _ (.inl (.inr ⟨rfl, rfl⟩)))⟩) (fun hH => ?_)
                          clear hK K
                          (try simp only [Act.put, List.setIfInBounds_toArray, List.set_cons_zero, List.set_cons_succ])
                          show wpAnyH _ _ _ _ _ _ #[true, true, true, true, true, true, false, false, true, true, false, false] _ _
                          exact keyq211.out _ _ _ HS hH
                    · intro baq bbq W HS hH
                      refine wpAnyH_ready (rs := [6]) (by kernel_rfl) (by simp) ?_
                      refine cons_at rfl (fun K hK => ?_) AllReadyH.nil
                      · go_simp
                        go_at_call_of 39 k'
                        refine (R4.out _).mono ?_
                        rintro e w9 ⟨rfl, hb⟩
                        (try go_wp2_with fail)
                        replace HS := HS.step hb
                        clear hb hH
                        refine hK.out _ _ (by exact ⟨cell_of_row _ (w.heap.size + 1) 0 _ _ _ (HS.kp _ _ (.inl (.inr ⟨rfl, rfl⟩))), cell_of_row _ (w.heap.size + 1) 1 _ _ _ (HS.kp _ _ (.inl (.inr ⟨rfl, rfl⟩))), cell_of_row _ (w.heap.size + 1) 2 _ _ _ (HS.kp _ _ (.inl (.inr ⟨rfl, rfl⟩))), cell_of_row _ (w.heap.size + 1) 3 _ _ _ (HS.kp _ _ (.inl (.inr ⟨rfl, rfl⟩))), cell_of_row _ (w.heap.size + 1) 4 _ _ _ (HS.kp _ _ (.inl (.inr ⟨rfl, rfl⟩))), cell_of_row _ (w.heap.size + 1) 5 _ _ _ (HS.kp _ _ (.inl (.inr ⟨rfl, rfl⟩))), cell_of_row _ (w.heap.size + 1) 6 _ _ _ (HS.kp _ _ (.inl (.inr ⟨rfl, rfl⟩))), cell_of_row _ (w.heap.size + 1) 7 _ _ _ (HS.kp _ _ (.inl (.inr ⟨rfl, rfl⟩))), cell_of_row _ (w.heap.size + 1) 8 _ _ _ (HS.kp _ _ (.inl (.inr ⟨rfl, rfl⟩))), cell_of_row _ (w.heap.size + 1) 9 _ _ _ (HS.kp _ _ (.inl (.inr ⟨rfl, rfl⟩)))⟩) (fun hH => ?_)
                        clear hK K
                        (try simp only [Act.put, List.setIfInBounds_toArray, List.set_cons_zero, List.set_cons_succ])
                        show wpAnyH _ _ _ _ _ _ #[true, true, true, true, true, true, true, false, true, true, false, false] _ _
                        revert hH HS
                        revert w9
                        revert bbq
                        revert baq
                        exact keyq311.out
                  · intro W HS hH
                    refine wpAnyH_ready (rs := [7, 8, 9]) (by kernel_rfl) (by simp) ?_
                    refine cons_at rfl (fun K hK => ?_) (cons_at rfl (fun K hK => ?_) (cons_at rfl (fun K hK => ?_) AllReadyH.nil))
                    · go_simp
                      go_at_call_of 38 p4
                      refine (G4.out _).mono ?_
                      rintro e w9 ⟨rfl, hb⟩
                      (try go_wp2_with fail)
                      replace HS := HS.step hb
                      clear hb hH
                      refine hK.out _ _ (by exact ⟨cell_of_row _ (w.heap.size + 1) 0 _ _ _ (HS.kp _ _ (.inl (.inr ⟨rfl, rfl⟩))), cell_of_row _ (w.heap.size + 1) 1 _ _ _ (HS.kp _ _ (.inl (.inr ⟨rfl, rfl⟩))), cell_of_row _ (w.heap.size + 1) 2 _ _ _ (HS.kp _ _ (.inl (.inr ⟨rfl, rfl⟩))), cell_of_row _ (w.heap.size + 1) 3 _ _ _ (HS.kp _ _ (.inl (.inr ⟨rfl, rfl⟩))), cell_of_row _ (w.heap.size + 1) 4 _ _ _ (HS.kp _ _ (.inl (.inr ⟨rfl, rfl⟩))), cell_of_row _ (w.heap.size + 1) 5 _ _ _ (HS.kp _ _ (.inl (.inr ⟨rfl, rfl⟩))), cell_of_row _ (w.heap.size + 1) 6 _ _ _ (HS.kp _ _ (.inl (.inr ⟨rfl, rfl⟩))), cell_of_row _ (w.heap.size + 1) 7 _ _ _ (HS.kp _ _ (.inl (.inr ⟨rfl, rfl⟩))), cell_of_row _ (w.heap.size + 1) 8 _ _ _ (HS.kp _ _ (.inl (.inr ⟨rfl, rfl⟩))), cell_of_row _ (w.heap.size + 1) 9 _ _ _ (HS.kp _ _ (.inl (.inr ⟨rfl, rfl⟩)))⟩) (fun hH => ?_)
                      clear hK K
                      (try simp only [Act.put, List.setIfInBounds_toArray, List.set_cons_zero, List.set_cons_succ])
                      show wpAnyH _ _ _ _ _ _ #[true, true, true, true, true, true, true, true, false, false, false, false] _ _
                      revert hH HS
                      revert w9
                      exact keyq400.out
                    · go_simp
                      replace HS := GSt.allocA (.cells #[.int .i64 0, .int .i64 0, .int .i64 0, .int .i64 0, .bool false] 50) (fun W => heap_alloc_new W _) HS
                      clear hH
                      refine hK.out _ _ (by exact ⟨cell_of_row _ (w.heap.size + 1) 0 _ _ _ (HS.kp _ _ (.inl (.inr ⟨rfl, rfl⟩))), cell_of_row _ (w.heap.size + 1) 1 _ _ _ (HS.kp _ _ (.inl (.inr ⟨rfl, rfl⟩))), cell_of_row _ (w.heap.size + 1) 2 _ _ _ (HS.kp _ _ (.inl (.inr ⟨rfl, rfl⟩))), cell_of_row _ (w.heap.size + 1) 3 _ _ _ (HS.kp _ _ (.inl (.inr ⟨rfl, rfl⟩))), cell_of_row _ (w.heap.size + 1) 4 _ _ _ (HS.kp _ _ (.inl (.inr ⟨rfl, rfl⟩))), cell_of_row _ (w.heap.size + 1) 5 _ _ _ (HS.kp _ _ (.inl (.inr ⟨rfl, rfl⟩))), cell_of_row _ (w.heap.size + 1) 6 _ _ _ (HS.kp _ _ (.inl (.inr ⟨rfl, rfl⟩))), cell_of_row _ (w.heap.size + 1) 7 _ _ _ (HS.kp _ _ (.inl (.inr ⟨rfl, rfl⟩))), cell_of_row _ (w.heap.size + 1) 8 _ _ _ (HS.kp _ _ (.inl (.inr ⟨rfl, rfl⟩))), cell_of_row _ (w.heap.size + 1) 9 _ _ _ (HS.kp _ _ (.inl (.inr ⟨rfl, rfl⟩)))⟩) (fun hH => ?_)
                      clear hK K
                      (try simp only [Act.put, List.setIfInBounds_toArray, List.set_cons_zero, List.set_cons_succ])
                      show wpAnyH _ _ _ _ _ _ #[true, true, true, true, true, true, true, false, true, false, false, false] _ _
                      exact keyq310.out _ _ HS hH
                    · go_simp
                      replace HS := GSt.allocB (.cells #[.int .i64 0, .int .i64 0, .int .i64 0, .int .i64 0, .bool false] 50) (fun W => heap_alloc_new W _) HS
                      clear hH
                      refine hK.out _ _ (by exact ⟨cell_of_row _ (w.heap.size + 1) 0 _ _ _ (HS.kp _ _ (.inl (.inr ⟨rfl, rfl⟩))), cell_of_row _ (w.heap.size + 1) 1 _ _ _ (HS.kp _ _ (.inl (.inr ⟨rfl, rfl⟩))), cell_of_row _ (w.heap.size + 1) 2 _ _ _ (HS.kp _ _ (.inl (.inr ⟨rfl, rfl⟩))), cell_of_row _ (w.heap.size + 1) 3 _ _ _ (HS.kp _ _ (.inl (.inr ⟨rfl, rfl⟩))), cell_of_row _ (w.heap.size + 1) 4 _ _ _ (HS.kp _ _ (.inl (.inr ⟨rfl, rfl⟩))), cell_of_row _ (w.heap.size + 1) 5 _ _ _ (HS.kp _ _ (.inl (.inr ⟨rfl, rfl⟩))), cell_of_row _ (w.heap.size + 1) 6 _ _ _ (HS.kp _ _ (.inl (.inr ⟨rfl, rfl⟩))), cell_of_row _ (w.heap.size + 1) 7 _ _ _ (HS.kp _ _ (.inl (.inr ⟨rfl, rfl⟩))), cell_of_row _ (w.heap.size + 1) 8 _ _ _ (HS.kp _ _ (.inl (.inr ⟨rfl, rfl⟩))), cell_of_row _ (w.heap.size + 1) 9 _ _ _ (HS.kp _ _ (.inl (.inr ⟨rfl, rfl⟩)))⟩) (fun hH => ?_)
                      clear hK K
                      (try simp only [Act.put, List.setIfInBounds_toArray, List.set_cons_zero, List.set_cons_succ])
                      show wpAnyH _ _ _ _ _ _ #[true, true, true, true, true, true, true, false, false, true, false, false] _ _
                      exact keyq301.out _ _ HS hH
                · intro baq W HS hH
                  refine wpAnyH_ready (rs := [7, 9]) (by kernel_rfl) (by simp) ?_
                  refine cons_at rfl (fun K hK => ?_) (cons_at rfl (fun K hK => ?_) AllReadyH.nil)
                  · go_simp
                    go_at_call_of 38 p4
                    refine (G4.out _).mono ?_
                    rintro e w9 ⟨rfl, hb⟩
                    (try go_wp2_with fail)
                    replace HS := HS.step hb
                    clear hb hH
                    refine hK.out _ _ (by exact ⟨cell_of_row _ (w.heap.size + 1) 0 _ _ _ (HS.kp _ _ (.inl (.inr ⟨rfl, rfl⟩))), cell_of_row _ (w.heap.size + 1) 1 _ _ _ (HS.kp _ _ (.inl (.inr ⟨rfl, rfl⟩))), cell_of_row _ (w.heap.size + 1) 2 _ _ _ (HS.kp _ _ (.inl (.inr ⟨rfl, rfl⟩))), cell_of_row _ (w.heap.size + 1) 3 _ _ _ (HS.kp _ _ (.inl (.inr ⟨rfl, rfl⟩))), cell_of_row _ (w.heap.size + 1) 4 _ _ _ (HS.kp _ _ (.inl (.inr ⟨rfl, rfl⟩))), cell_of_row _ (w.heap.size + 1) 5 _ _ _ (HS.kp _ _ (.inl (.inr ⟨rfl, rfl⟩))), cell_of_row _ (w.heap.size + 1) 6 _ _ _ (HS.kp _ _ (.inl (.inr ⟨rfl, rfl⟩))), cell_of_row _ (w.heap.size + 1) 7 _ _ _ (HS.kp _ _ (.inl (.inr ⟨rfl, rfl⟩))), cell_of_row _ (w.heap.size + 1) 8 _ _ _ (HS.kp _ _ (.inl (.inr ⟨rfl, rfl⟩))), cell_of_row _ (w.heap.size + 1) 9 _ _ _ (HS.kp _ _ (.inl (.inr ⟨rfl, rfl⟩)))⟩) (fun hH => ?_)
                    clear hK K
                    (try simp only [Act.put, List.setIfInBounds_toArray, List.set_cons_zero, List.set_cons_succ])
                    show wpAnyH _ _ _ _ _ _ #[true, true, true, true, true, true, true, true, true, false, false, false] _ _
                    revert hH HS
                    revert w9
                    revert baq
                    exact keyq410.out
                  · go_simp
                    replace HS := GSt.allocB (.cells #[.int .i64 0, .int .i64 0, .int .i64 0, .int .i64 0, .bool false] 50) (fun W => heap_alloc_new W _) HS
                    clear hH
                    refine hK.out _ _ (by exact ⟨cell_of_row _ (w.heap.size + 1) 0 _ _ _ (HS.kp _ _ (.inl (.inr ⟨rfl, rfl⟩))), cell_of_row _ (w.heap.size + 1) 1 _ _ _ (HS.kp _ _ (.inl (.inr ⟨rfl, rfl⟩))), cell_of_row _ (w.heap.size + 1) 2 _ _ _ (HS.kp _ _ (.inl (.inr ⟨rfl, rfl⟩))), cell_of_row _ (w.heap.size + 1) 3 _ _ _ (HS.kp _ _ (.inl (.inr ⟨rfl, rfl⟩))), cell_of_row _ (w.heap.size + 1) 4 _ _ _ (HS.kp _ _ (.inl (.inr ⟨rfl, rfl⟩))), cell_of_row _ (w.heap.size + 1) 5 _ _ _ (HS.kp _ _ (.inl (.inr ⟨rfl, rfl⟩))), cell_of_row _ (w.heap.size + 1) 6 _ _ _ (HS.kp _ _ (.inl (.inr ⟨rfl, rfl⟩))), cell_of_row _ (w.heap.size + 1) 7 _ _ _ (HS.kp _ _ (.inl (.inr ⟨rfl, rfl⟩))), cell_of_row _ (w.heap.size + 1) 8 _ _ _ (HS.kp _ _ (.inl (.inr ⟨rfl, rfl⟩))), cell_of_row _ (w.heap.size + 1) 9 _ _ _ (HS.kp _ _ (.inl (.inr ⟨rfl, rfl⟩)))⟩) (fun hH => ?_)
                    clear hK K
                    (try simp only [Act.put, List.setIfInBounds_toArray, List.set_cons_zero, List.set_cons_succ])
                    show wpAnyH _ _ _ _ _ _ #[true, true, true, true, true, true, true, false, true, true, false, false] _ _
                    exact keyq311.out _ _ _ HS hH
              · intro bbq W HS hH
                refine wpAnyH_ready (rs := [7, 8]) (by kernel_rfl) (by simp) ?_
                refine cons_at rfl (fun K hK => ?_) (cons_at rfl (fun K hK => ?_) AllReadyH.nil)
                · go_simp
                  go_at_call_of 38 p4
                  refine (G4.out _).mono ?_
                  rintro e w9 ⟨rfl, hb⟩
                  (try go_wp2_with fail)
                  replace HS := HS.step hb
                  clear hb hH
                  refine hK.out _ _ (by exact ⟨cell_of_row _ (w.heap.size + 1) 0 _ _ _ (HS.kp _ _ (.inl (.inr ⟨rfl, rfl⟩))), cell_of_row _ (w.heap.size + 1) 1 _ _ _ (HS.kp _ _ (.inl (.inr ⟨rfl, rfl⟩))), cell_of_row _ (w.heap.size + 1) 2 _ _ _ (HS.kp _ _ (.inl (.inr ⟨rfl, rfl⟩))), cell_of_row _ (w.heap.size + 1) 3 _ _ _ (HS.kp _ _ (.inl (.inr ⟨rfl, rfl⟩))), cell_of_row _ (w.heap.size + 1) 4 _ _ _ (HS.kp _ _ (.inl (.inr ⟨rfl, rfl⟩))), cell_of_row _ (w.heap.size + 1) 5 _ _ _ (HS.kp _ _ (.inl (.inr ⟨rfl, rfl⟩))), cell_of_row _ (w.heap.size + 1) 6 _ _ _ (HS.kp _ _ (.inl (.inr ⟨rfl, rfl⟩))), cell_of_row _ (w.heap.size + 1) 7 _ _ _ (HS.kp _ _ (.inl (.inr ⟨rfl, rfl⟩))), cell_of_row _ (w.heap.size + 1) 8 _ _ _ (HS.kp _ _ (.inl (.inr ⟨rfl, rfl⟩))), cell_of_row _ (w.heap.size + 1) 9 _ _ _ (HS.kp _ _ (.inl (.inr ⟨rfl, rfl⟩)))⟩) (fun hH => ?_)
                  clear hK K
                  (try simp only [Act.put, List.setIfInBounds_toArray, List.set_cons_zero, List.set_cons_succ])
                  show wpAnyH _ _ _ _ _ _ #[true, true, true, true, true, true, true, true, false, true, false, false] _ _
                  revert hH HS
                  revert w9
                  revert bbq
                  exact keyq401.out
                · go_simp
                  replace HS := GSt.allocA (.cells #[.int .i64 0, .int .i64 0, .int .i64 0, .int .i64 0, .bool false] 50) (fun W => heap_alloc_new W _) HS
                  clear hH
                  refine hK.out _ _ (by exact ⟨cell_of_row _ (w.heap.size + 1) 0 _ _ _ (HS.kp _ _ (.inl (.inr ⟨rfl, rfl⟩))), cell_of_row _ (w.heap.size + 1) 1 _ _ _ (HS.kp _ _ (.inl (.inr ⟨rfl, rfl⟩))), cell_of_row _ (w.heap.size + 1) 2 _ _ _ (HS.kp _ _ (.inl (.inr ⟨rfl, rfl⟩))), cell_of_row _ (w.heap.size + 1) 3 _ _ _ (HS.kp _ _ (.inl (.inr ⟨rfl, rfl⟩))), cell_of_row _ (w.heap.size + 1) 4 _ _ _ (HS.kp _ _ (.inl (.inr ⟨rfl, rfl⟩))), cell_of_row _ (w.heap.size + 1) 5 _ _ _ (HS.kp _ _ (.inl (.inr ⟨rfl, rfl⟩))), cell_of_row _ (w.heap.size + 1) 6 _ _ _ (HS.kp _ _ (.inl (.inr ⟨rfl, rfl⟩))), cell_of_row _ (w.heap.size + 1) 7 _ _ _ (HS.kp _ _ (.inl (.inr ⟨rfl, rfl⟩))), cell_of_row _ (w.heap.size + 1) 8 _ _ _ (HS.kp _ _ (.inl (.inr ⟨rfl, rfl⟩))), cell_of_row _ (w.heap.size + 1) 9 _ _ _ (HS.kp _ _ (.inl (.inr ⟨rfl, rfl⟩)))⟩) (fun hH => ?_)
                  clear hK K
                  (try simp only [Act.put, List.setIfInBounds_toArray, List.set_cons_zero, List.set_cons_succ])
                  show wpAnyH _ _ _ _ _ _ #[true, true, true, true, true, true, true, false, true, true, false, false] _ _
                  exact keyq311.out _ _ _ HS hH
            · intro baq bbq W HS hH
              refine wpAnyH_ready (rs := [7]) (by kernel_rfl) (by simp) ?_
              refine cons_at rfl (fun K hK => ?_) AllReadyH.nil
              · go_simp
                go_at_call_of 38 p4
                refine (G4.out _).mono ?_
                rintro e w9 ⟨rfl, hb⟩
                (try go_wp2_with fail)
                replace HS := HS.step hb
                clear hb hH
                refine hK.out _ _ (by exact ⟨cell_of_row _ (w.heap.size + 1) 0 _ _ _ (HS.kp _ _ (.inl (.inr ⟨rfl, rfl⟩))), cell_of_row _ (w.heap.size + 1) 1 _ _ _ (HS.kp _ _ (.inl (.inr ⟨rfl, rfl⟩))), cell_of_row _ (w.heap.size + 1) 2 _ _ _ (HS.kp _ _ (.inl (.inr ⟨rfl, rfl⟩))), cell_of_row _ (w.heap.size + 1) 3 _ _ _ (HS.kp _ _ (.inl (.inr ⟨rfl, rfl⟩))), cell_of_row _ (w.heap.size + 1) 4 _ _ _ (HS.kp _ _ (.inl (.inr ⟨rfl, rfl⟩))), cell_of_row _ (w.heap.size + 1) 5 _ _ _ (HS.kp _ _ (.inl (.inr ⟨rfl, rfl⟩))), cell_of_row _ (w.heap.size + 1) 6 _ _ _ (HS.kp _ _ (.inl (.inr ⟨rfl, rfl⟩))), cell_of_row _ (w.heap.size + 1) 7 _ _ _ (HS.kp _ _ (.inl (.inr ⟨rfl, rfl⟩))), cell_of_row _ (w.heap.size + 1) 8 _ _ _ (HS.kp _ _ (.inl (.inr ⟨rfl, rfl⟩))), cell_of_row _ (w.heap.size + 1) 9 _ _ _ (HS.kp _ _ (.inl (.inr ⟨rfl, rfl⟩)))⟩) (fun hH => ?_)
                clear hK K
                (try simp only [Act.put, List.setIfInBounds_toArray, List.set_cons_zero, List.set_cons_succ])
                show wpAnyH _ _ _ _ _ _ #[true, true, true, true, true, true, true, true, true, true, false, false] _ _
                revert hH HS
                revert w9
                revert bbq
                revert baq
                exact keyq411.out
          · intro W HS hH
            refine wpAnyH_ready (rs := [8, 9]) (by kernel_rfl) (by simp) ?_
            refine cons_at rfl (fun K hK => ?_) (cons_at rfl (fun K hK => ?_) AllReadyH.nil)
            · go_simp
              replace HS := GSt.allocA (.cells #[.int .i64 0, .int .i64 0, .int .i64 0, .int .i64 0, .bool false] 50) (fun W => heap_alloc_new W _) HS
              clear hH
              refine hK.out _ _ (by exact ⟨cell_of_row _ (w.heap.size + 1) 0 _ _ _ (HS.kp _ _ (.inl (.inr ⟨rfl, rfl⟩))), cell_of_row _ (w.heap.size + 1) 1 _ _ _ (HS.kp _ _ (.inl (.inr ⟨rfl, rfl⟩))), cell_of_row _ (w.heap.size + 1) 2 _ _ _ (HS.kp _ _ (.inl (.inr ⟨rfl, rfl⟩))), cell_of_row _ (w.heap.size + 1) 3 _ _ _ (HS.kp _ _ (.inl (.inr ⟨rfl, rfl⟩))), cell_of_row _ (w.heap.size + 1) 4 _ _ _ (HS.kp _ _ (.inl (.inr ⟨rfl, rfl⟩))), cell_of_row _ (w.heap.size + 1) 5 _ _ _ (HS.kp _ _ (.inl (.inr ⟨rfl, rfl⟩))), cell_of_row _ (w.heap.size + 1) 6 _ _ _ (HS.kp _ _ (.inl (.inr ⟨rfl, rfl⟩))), cell_of_row _ (w.heap.size + 1) 7 _ _ _ (HS.kp _ _ (.inl (.inr ⟨rfl, rfl⟩))), cell_of_row _ (w.heap.size + 1) 8 _ _ _ (HS.kp _ _ (.inl (.inr ⟨rfl, rfl⟩))), cell_of_row _ (w.heap.size + 1) 9 _ _ _ (HS.kp _ _ (.inl (.inr ⟨rfl, rfl⟩)))⟩) (fun hH => ?_)
              clear hK K
              (try simp only [Act.put, List.setIfInBounds_toArray, List.set_cons_zero, List.set_cons_succ])
              show wpAnyH _ _ _ _ _ _ #[true, true, true, true, true, true, true, true, true, false, false, false] _ _
              exact keyq410.out _ _ HS hH
            · go_simp
              replace HS := GSt.allocB (.cells #[.int .i64 0, .int .i64 0, .int .i64 0, .int .i64 0, .bool false] 50) (fun W => heap_alloc_new W _) HS
              clear hH
              refine hK.out _ _ (by exact ⟨cell_of_row _ (w.heap.size + 1) 0 _ _ _ (HS.kp _ _ (.inl (.inr ⟨rfl, rfl⟩))), cell_of_row _ (w.heap.size + 1) 1 _ _ _ (HS.kp _ _ (.inl (.inr ⟨rfl, rfl⟩))), cell_of_row _ (w.heap.size + 1) 2 _ _ _ (HS.kp _ _ (.inl (.inr ⟨rfl, rfl⟩))), cell_of_row _ (w.heap.size + 1) 3 _ _ _ (HS.kp _ _ (.inl (.inr ⟨rfl, rfl⟩))), cell_of_row _ (w.heap.size + 1) 4 _ _ _ (HS.kp _ _ (.inl (.inr ⟨rfl, rfl⟩))), cell_of_row _ (w.heap.size + 1) 5 _ _ _ (HS.kp _ _ (.inl (.inr ⟨rfl, rfl⟩))), cell_of_row _ (w.heap.size + 1) 6 _ _ _ (HS.kp _ _ (.inl (.inr ⟨rfl, rfl⟩))), cell_of_row _ (w.heap.size + 1) 7 _ _ _ (HS.kp _ _ (.inl (.inr ⟨rfl, rfl⟩))), cell_of_row _ (w.heap.size + 1) 8 _ _ _ (HS.kp _ _ (.inl (.inr ⟨rfl, rfl⟩))), cell_of_row _ (w.heap.size + 1) 9 _ _ _ (HS.kp _ _ (.inl (.inr ⟨rfl, rfl⟩)))⟩) (fun hH => ?_)
              clear hK K
              (try simp only [Act.put, List.setIfInBounds_toArray, List.set_cons_zero, List.set_cons_succ])
              show wpAnyH _ _ _ _ _ _ #[true, true, true, true, true, true, true, true, false, true, false, false] _ _
              exact keyq401.out _ _ HS hH
        · intro baq W HS hH
          refine wpAnyH_ready (rs := [9]) (by kernel_rfl) (by simp) ?_
          refine cons_at rfl (fun K hK => ?_) AllReadyH.nil
          · go_simp
            replace HS := GSt.allocB (.cells #[.int .i64 0, .int .i64 0, .int .i64 0, .int .i64 0, .bool false] 50) (fun W => heap_alloc_new W _) HS
            clear hH
            refine hK.out _ _ (by exact ⟨cell_of_row _ (w.heap.size + 1) 0 _ _ _ (HS.kp _ _ (.inl (.inr ⟨rfl, rfl⟩))), cell_of_row _ (w.heap.size + 1) 1 _ _ _ (HS.kp _ _ (.inl (.inr ⟨rfl, rfl⟩))), cell_of_row _ (w.heap.size + 1) 2 _ _ _ (HS.kp _ _ (.inl (.inr ⟨rfl, rfl⟩))), cell_of_row _ (w.heap.size + 1) 3 _ _ _ (HS.kp _ _ (.inl (.inr ⟨rfl, rfl⟩))), cell_of_row _ (w.heap.size + 1) 4 _ _ _ (HS.kp _ _ (.inl (.inr ⟨rfl, rfl⟩))), cell_of_row _ (w.heap.size + 1) 5 _ _ _ (HS.kp _ _ (.inl (.inr ⟨rfl, rfl⟩))), cell_of_row _ (w.heap.size + 1) 6 _ _ _ (HS.kp _ _ (.inl (.inr ⟨rfl, rfl⟩))), cell_of_row _ (w.heap.size + 1) 7 _ _ _ (HS.kp _ _ (.inl (.inr ⟨rfl, rfl⟩))), cell_of_row _ (w.heap.size + 1) 8 _ _ _ (HS.kp _ _ (.inl (.inr ⟨rfl, rfl⟩))), cell_of_row _ (w.heap.size + 1) 9 _ _ _ (HS.kp _ _ (.inl (.inr ⟨rfl, rfl⟩)))⟩) (fun hH => ?_)
            clear hK K
            (try simp only [Act.put, List.setIfInBounds_toArray, List.set_cons_zero, List.set_cons_succ])
            show wpAnyH _ _ _ _ _ _ #[true, true, true, true, true, true, true, true, true, true, false, false] _ _
            exact keyq411.out _ _ _ HS hH
      · intro bbq W HS hH
        refine wpAnyH_ready (rs := [8]) (by kernel_rfl) (by simp) ?_
        refine cons_at rfl (fun K hK => ?_) AllReadyH.nil
        · go_simp
          replace HS := GSt.allocA (.cells #[.int .i64 0, .int .i64 0, .int .i64 0, .int .i64 0, .bool false] 50) (fun W => heap_alloc_new W _) HS
          clear hH
          refine hK.out _ _ (by exact ⟨cell_of_row _ (w.heap.size + 1) 0 _ _ _ (HS.kp _ _ (.inl (.inr ⟨rfl, rfl⟩))), cell_of_row _ (w.heap.size + 1) 1 _ _ _ (HS.kp _ _ (.inl (.inr ⟨rfl, rfl⟩))), cell_of_row _ (w.heap.size + 1) 2 _ _ _ (HS.kp _ _ (.inl (.inr ⟨rfl, rfl⟩))), cell_of_row _ (w.heap.size + 1) 3 _ _ _ (HS.kp _ _ (.inl (.inr ⟨rfl, rfl⟩))), cell_of_row _ (w.heap.size + 1) 4 _ _ _ (HS.kp _ _ (.inl (.inr ⟨rfl, rfl⟩))), cell_of_row _ (w.heap.size + 1) 5 _ _ _ (HS.kp _ _ (.inl (.inr ⟨rfl, rfl⟩))), cell_of_row _ (w.heap.size + 1) 6 _ _ _ (HS.kp _ _ (.inl (.inr ⟨rfl, rfl⟩))), cell_of_row _ (w.heap.size + 1) 7 _ _ _ (HS.kp _ _ (.inl (.inr ⟨rfl, rfl⟩))), cell_of_row _ (w.heap.size + 1) 8 _ _ _ (HS.kp _ _ (.inl (.inr ⟨rfl, rfl⟩))), cell_of_row _ (w.heap.size + 1) 9 _ _ _ (HS.kp _ _ (.inl (.inr ⟨rfl, rfl⟩)))⟩) (fun hH => ?_)
          clear hK K
          (try simp only [Act.put, List.setIfInBounds_toArray, List.set_cons_zero, List.set_cons_succ])
          show wpAnyH _ _ _ _ _ _ #[true, true, true, true, true, true, true, true, true, true, false, false] _ _
          exact keyq411.out _ _ _ HS hH
    · intro baq bbq W HS hH
      obtain ⟨hA, ca, na⟩ := HS.ha baq rfl
      obtain ⟨hBb, cb, nb⟩ := HS.hb bbq rfl
      have nab := HS.ne baq bbq rfl rfl
      have kp := HS.kp
      have hB := HS.B
      have za0 := cell_of_row _ baq 0 _ _ _ hA
      have fa0 := frozen_of 0 hA
      have za1 := cell_of_row _ baq 1 _ _ _ hA
      have fa1 := frozen_of 1 hA
      have za2 := cell_of_row _ baq 2 _ _ _ hA
      have fa2 := frozen_of 2 hA
      have za3 := cell_of_row _ baq 3 _ _ _ hA
      have fa3 := frozen_of 3 hA
      have za4 := cell_of_row _ baq 4 _ _ _ hA
      have fa4 := frozen_of 4 hA
      refine wpAnyH_ready (rs := [10]) (by kernel_rfl) (by simp) ?_
      refine cons_at rfl (fun K hK => ?_) AllReadyH.nil
      go_simp
      clear hH za0 fa0 za1 fa1 za2 fa2 za3 fa3 za4 fa4
      replace kp : ∀ i9 o9, (KPb (KPa w (.cells #[.int .i64 a, .int .i64 b, .int .i64 c, .int .i64 d, .int .i64 a', .int .i64 b', .int .i64 c', .int .i64 d'] 48 (0, 0)) (.cells #[.int .i64 k, .int .i64 l, .int .i64 m, .int .i64 n, .bool o, .int .i64 k', .int .i64 l', .int .i64 m', .int .i64 n', .bool o'] 51 (0, 0))) bap (.cells #[.int .i64 x0, .int .i64 x1, .int .i64 x2, .int .i64 x3] 33 (0, 0)) bbp (.cells #[.int .i64 y0, .int .i64 y1, .int .i64 y2, .int .i64 y3] 33 (0, 0))) i9 o9 → (((((W.setCell ⟨baq, 0, none⟩ (.int .i64 u0)).setCell ⟨baq, 1, none⟩ (.int .i64 u1)).setCell ⟨baq, 2, none⟩ (.int .i64 u2)).setCell ⟨baq, 3, none⟩ (.int .i64 u3)).setCell ⟨baq, 4, none⟩ (.bool u4)).heap[i9]? = some o9 := fun i9 o9 e9 => (put5_far (W := W) (n := baq) (na i9 o9 e9) (.int .i64 u0) (.int .i64 u1) (.int .i64 u2) (.int .i64 u3) (.bool u4)).trans (kp i9 o9 e9)
      replace hBb := (put5_far (W := W) (n := baq) (Ne.symm nab) (.int .i64 u0) (.int .i64 u1) (.int .i64 u2) (.int .i64 u3) (.bool u4)).trans hBb
      replace hA := put5_self hA (.int .i64 u0) (.int .i64 u1) (.int .i64 u2) (.int .i64 u3) (.bool u4)
      replace hB := put5_below (n := baq) hB ca (.int .i64 u0) (.int .i64 u1) (.int .i64 u2) (.int .i64 u3) (.bool u4)
      refine hK.out _ _ (by exact ⟨cell_of_row _ (w.heap.size + 1) 0 _ _ _ (kp _ _ (.inl (.inr ⟨rfl, rfl⟩))), cell_of_row _ (w.heap.size + 1) 1 _ _ _ (kp _ _ (.inl (.inr ⟨rfl, rfl⟩))), cell_of_row _ (w.heap.size + 1) 2 _ _ _ (kp _ _ (.inl (.inr ⟨rfl, rfl⟩))), cell_of_row _ (w.heap.size + 1) 3 _ _ _ (kp _ _ (.inl (.inr ⟨rfl, rfl⟩))), cell_of_row _ (w.heap.size + 1) 4 _ _ _ (kp _ _ (.inl (.inr ⟨rfl, rfl⟩))), cell_of_row _ (w.heap.size + 1) 5 _ _ _ (kp _ _ (.inl (.inr ⟨rfl, rfl⟩))), cell_of_row _ (w.heap.size + 1) 6 _ _ _ (kp _ _ (.inl (.inr ⟨rfl, rfl⟩))), cell_of_row _ (w.heap.size + 1) 7 _ _ _ (kp _ _ (.inl (.inr ⟨rfl, rfl⟩))), cell_of_row _ (w.heap.size + 1) 8 _ _ _ (kp _ _ (.inl (.inr ⟨rfl, rfl⟩))), cell_of_row _ (w.heap.size + 1) 9 _ _ _ (kp _ _ (.inl (.inr ⟨rfl, rfl⟩)))⟩) (fun hH => ?_)
      clear hK K
      (try simp only [Act.put, List.setIfInBounds_toArray, List.set_cons_zero, List.set_cons_succ])
      generalize ((((W.setCell ⟨baq, 0, none⟩ (.int .i64 u0)).setCell ⟨baq, 1, none⟩ (.int .i64 u1)).setCell ⟨baq, 2, none⟩ (.int .i64 u2)).setCell ⟨baq, 3, none⟩ (.int .i64 u3)).setCell ⟨baq, 4, none⟩ (.bool u4) = W8 at kp hA hBb hB hH ⊢
      have za0 := cell_of_row _ bbq 0 _ _ _ hBb
      have fa0 := frozen_of 0 hBb
      have za1 := cell_of_row _ bbq 1 _ _ _ hBb
      have fa1 := frozen_of 1 hBb
      have za2 := cell_of_row _ bbq 2 _ _ _ hBb
      have fa2 := frozen_of 2 hBb
      have za3 := cell_of_row _ bbq 3 _ _ _ hBb
      have fa3 := frozen_of 3 hBb
      have za4 := cell_of_row _ bbq 4 _ _ _ hBb
      have fa4 := frozen_of 4 hBb
      refine wpAnyH_ready (rs := [11]) (by kernel_rfl) (by simp) ?_
      refine cons_at rfl (fun K hK => ?_) AllReadyH.nil
      go_simp
      clear hH za0 fa0 za1 fa1 za2 fa2 za3 fa3 za4 fa4
      replace kp : ∀ i9 o9, (KPb (KPa w (.cells #[.int .i64 a, .int .i64 b, .int .i64 c, .int .i64 d, .int .i64 a', .int .i64 b', .int .i64 c', .int .i64 d'] 48 (0, 0)) (.cells #[.int .i64 k, .int .i64 l, .int .i64 m, .int .i64 n, .bool o, .int .i64 k', .int .i64 l', .int .i64 m', .int .i64 n', .bool o'] 51 (0, 0))) bap (.cells #[.int .i64 x0, .int .i64 x1, .int .i64 x2, .int .i64 x3] 33 (0, 0)) bbp (.cells #[.int .i64 y0, .int .i64 y1, .int .i64 y2, .int .i64 y3] 33 (0, 0))) i9 o9 → (((((W8.setCell ⟨bbq, 0, none⟩ (.int .i64 v0)).setCell ⟨bbq, 1, none⟩ (.int .i64 v1)).setCell ⟨bbq, 2, none⟩ (.int .i64 v2)).setCell ⟨bbq, 3, none⟩ (.int .i64 v3)).setCell ⟨bbq, 4, none⟩ (.bool v4)).heap[i9]? = some o9 := fun i9 o9 e9 => (put5_far (W := W8) (n := bbq) (nb i9 o9 e9) (.int .i64 v0) (.int .i64 v1) (.int .i64 v2) (.int .i64 v3) (.bool v4)).trans (kp i9 o9 e9)
      replace hA := (put5_far (W := W8) (n := bbq) nab (.int .i64 v0) (.int .i64 v1) (.int .i64 v2) (.int .i64 v3) (.bool v4)).trans hA
      replace hBb := put5_self hBb (.int .i64 v0) (.int .i64 v1) (.int .i64 v2) (.int .i64 v3) (.bool v4)
      replace hB := put5_below (n := bbq) hB cb (.int .i64 v0) (.int .i64 v1) (.int .i64 v2) (.int .i64 v3) (.bool v4)
      refine hK.out _ _ (by exact ⟨cell_of_row _ (w.heap.size + 1) 0 _ _ _ (kp _ _ (.inl (.inr ⟨rfl, rfl⟩))), cell_of_row _ (w.heap.size + 1) 1 _ _ _ (kp _ _ (.inl (.inr ⟨rfl, rfl⟩))), cell_of_row _ (w.heap.size + 1) 2 _ _ _ (kp _ _ (.inl (.inr ⟨rfl, rfl⟩))), cell_of_row _ (w.heap.size + 1) 3 _ _ _ (kp _ _ (.inl (.inr ⟨rfl, rfl⟩))), cell_of_row _ (w.heap.size + 1) 4 _ _ _ (kp _ _ (.inl (.inr ⟨rfl, rfl⟩))), cell_of_row _ (w.heap.size + 1) 5 _ _ _ (kp _ _ (.inl (.inr ⟨rfl, rfl⟩))), cell_of_row _ (w.heap.size + 1) 6 _ _ _ (kp _ _ (.inl (.inr ⟨rfl, rfl⟩))), cell_of_row _ (w.heap.size + 1) 7 _ _ _ (kp _ _ (.inl (.inr ⟨rfl, rfl⟩))), cell_of_row _ (w.heap.size + 1) 8 _ _ _ (kp _ _ (.inl (.inr ⟨rfl, rfl⟩))), cell_of_row _ (w.heap.size + 1) 9 _ _ _ (kp _ _ (.inl (.inr ⟨rfl, rfl⟩)))⟩) (fun hH => ?_)
      clear hK K
      (try simp only [Act.put, List.setIfInBounds_toArray, List.set_cons_zero, List.set_cons_succ])
      generalize ((((W8.setCell ⟨bbq, 0, none⟩ (.int .i64 v0)).setCell ⟨bbq, 1, none⟩ (.int .i64 v1)).setCell ⟨bbq, 2, none⟩ (.int .i64 v2)).setCell ⟨bbq, 3, none⟩ (.int .i64 v3)).setCell ⟨bbq, 4, none⟩ (.bool v4) = W9 at kp hA hBb hB hH ⊢
      refine wpAnyH_done (by kernel_rfl) ?_ _
      refine NoPanic.normal ?_
      clear hH HS
      have hx := kp bap _ (.inr (.inl ⟨rfl, rfl⟩))
      have hy := kp bbp _ (.inr (.inr ⟨rfl, rfl⟩))
      clear kp
      go_wp2
      replace hx : W9.drew.heap[bap]? = _ := hx
      replace hy : W9.drew.heap[bbp]? = _ := hy
      replace hA : W9.drew.heap[baq]? = _ := hA
      replace hBb : W9.drew.heap[bbq]? = _ := hBb
      replace hB := hB.drew
      (first | (go_region_held3 (fun w' => w'.cell? ⟨bap, 0, none⟩ = some (.int .i64 x0) ∧ w'.cell? ⟨bap, 1, none⟩ = some (.int .i64 x1) ∧ w'.cell? ⟨bap, 2, none⟩ = some (.int .i64 x2) ∧ w'.cell? ⟨bap, 3, none⟩ = some (.int .i64 x3) ∧ w'.cell? ⟨bbp, 0, none⟩ = some (.int .i64 y0) ∧ w'.cell? ⟨bbp, 1, none⟩ = some (.int .i64 y1) ∧ w'.cell? ⟨bbp, 2, none⟩ = some (.int .i64 y2) ∧ w'.cell? ⟨bbp, 3, none⟩ = some (.int .i64 y3) ∧ w'.cell? ⟨baq, 0, none⟩ = some (.int .i64 u0) ∧ w'.cell? ⟨baq, 1, none⟩ = some (.int .i64 u1) ∧ w'.cell? ⟨baq, 2, none⟩ = some (.int .i64 u2) ∧ w'.cell? ⟨baq, 3, none⟩ = some (.int .i64 u3) ∧ w'.cell? ⟨baq, 4, none⟩ = some (.bool u4) ∧ w'.cell? ⟨bbq, 0, none⟩ = some (.int .i64 v0) ∧ w'.cell? ⟨bbq, 1, none⟩ = some (.int .i64 v1) ∧ w'.cell? ⟨bbq, 2, none⟩ = some (.int .i64 v2) ∧ w'.cell? ⟨bbq, 3, none⟩ = some (.int .i64 v3) ∧ w'.cell? ⟨bbq, 4, none⟩ = some (.bool v4))
        (exact ⟨cell_of_row _ bap 0 _ _ _ hx, cell_of_row _ bap 1 _ _ _ hx, cell_of_row _ bap 2 _ _ _ hx, cell_of_row _ bap 3 _ _ _ hx, cell_of_row _ bbp 0 _ _ _ hy, cell_of_row _ bbp 1 _ _ _ hy, cell_of_row _ bbp 2 _ _ _ hy, cell_of_row _ bbp 3 _ _ _ hy, cell_of_row _ baq 0 _ _ _ hA, cell_of_row _ baq 1 _ _ _ hA, cell_of_row _ baq 2 _ _ _ hA, cell_of_row _ baq 3 _ _ _ hA, cell_of_row _ baq 4 _ _ _ hA, cell_of_row _ bbq 0 _ _ _ hBb, cell_of_row _ bbq 1 _ _ _ hBb, cell_of_row _ bbq 2 _ _ _ hBb, cell_of_row _ bbq 3 _ _ _ hBb, cell_of_row _ bbq 4 _ _ _ hBb⟩)
        (first
          | (go_at_call 26; refine (awake1_any _).mono ?_; rintro e w8 ⟨rfl, hb⟩; replace hx := (hb.block _ (lt_of_heap1 hx)).trans hx; replace hy := (hb.block _ (lt_of_heap1 hy)).trans hy; replace hA := (hb.block _ (lt_of_heap1 hA)).trans hA; replace hBb := (hb.block _ (lt_of_heap1 hBb)).trans hBb; replace hB := hB.trans (hb.mono hB.size); clear hb)
          | (go_at_call_of 28 x0; refine (P1.out _).mono ?_; rintro e w8 ⟨rfl, hb⟩; replace hx := (hb.block _ (lt_of_heap1 hx)).trans hx; replace hy := (hb.block _ (lt_of_heap1 hy)).trans hy; replace hA := (hb.block _ (lt_of_heap1 hA)).trans hA; replace hBb := (hb.block _ (lt_of_heap1 hBb)).trans hBb; replace hB := hB.trans (hb.mono hB.size); clear hb)
          | (go_at_call_of 28 y0; refine (P2.out _).mono ?_; rintro e w8 ⟨rfl, hb⟩; replace hx := (hb.block _ (lt_of_heap1 hx)).trans hx; replace hy := (hb.block _ (lt_of_heap1 hy)).trans hy; replace hA := (hb.block _ (lt_of_heap1 hA)).trans hA; replace hBb := (hb.block _ (lt_of_heap1 hBb)).trans hBb; replace hB := hB.trans (hb.mono hB.size); clear hb)
          | (go_at_call_of 40 u0; refine (P3.out _).mono ?_; rintro e w8 ⟨rfl, hb⟩; replace hx := (hb.block _ (lt_of_heap1 hx)).trans hx; replace hy := (hb.block _ (lt_of_heap1 hy)).trans hy; replace hA := (hb.block _ (lt_of_heap1 hA)).trans hA; replace hBb := (hb.block _ (lt_of_heap1 hBb)).trans hBb; replace hB := hB.trans (hb.mono hB.size); clear hb)
          | (go_at_call_of 40 v0; refine (P4.out _).mono ?_; rintro e w8 ⟨rfl, hb⟩; replace hx := (hb.block _ (lt_of_heap1 hx)).trans hx; replace hy := (hb.block _ (lt_of_heap1 hy)).trans hy; replace hA := (hb.block _ (lt_of_heap1 hA)).trans hA; replace hBb := (hb.block _ (lt_of_heap1 hBb)).trans hBb; replace hB := hB.trans (hb.mono hB.size); clear hb))) | fail)
      all_goals go_wp2
      all_goals go_ret
      all_goals exact ⟨rfl, hB⟩
end Go.Proofs.Ytnpjfdiapoghnaa
