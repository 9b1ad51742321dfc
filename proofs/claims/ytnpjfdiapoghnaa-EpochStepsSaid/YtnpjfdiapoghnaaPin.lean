/- Layer 5, pin: what a thread's steps do, by walks. -/
import Derived.Test.YtnpjfdiapoghnaaEnv
import Derived.StillTailTactics
import Derived.Deep.RegionWith
import Derived.Deep.RegionHeld3
import Derived.RegionTactic
namespace Go.Proofs.Ytnpjfdiapoghnaa
open Go Go.RowKit

/-- But for these blocks, the world is as it was. -/
structure KeepL (S : List Nat) (W W' : World) : Prop where
  os : W'.os = W.os
  tape : W'.tape = W.tape
  output : W'.output = W.output
  size : W.heap.size ≤ W'.heap.size
  block : ∀ k, k < W.heap.size → k ∉ S → W'.heap[k]? = W.heap[k]?
section
variable {S : List Nat} {W W' W1 : World} {g gw gh : Nat}
theorem KeepL.refl : KeepL S W W := ⟨rfl, rfl, rfl, Nat.le_refl _, fun _ _ _ => rfl⟩
theorem KeepL.trans (h : KeepL S W W1) (k : KeepL S W1 W') : KeepL S W W' :=
  ⟨k.os.trans h.os, k.tape.trans h.tape, k.output.trans h.output, Nat.le_trans h.size k.size, fun i hi a => (k.block i (Nat.lt_of_lt_of_le hi h.size) a).trans (h.block i hi a)⟩
theorem KeepL.of_below (h : Below W.heap.size W W') : KeepL S W W' := ⟨h.os, h.tape, h.output, h.size, fun i hi _ => h.block i hi⟩
theorem KeepL.of3 (h : Keep3 g gw gh W W') (a : g ∈ S) (b : gw ∈ S) (c : gh ∈ S) : KeepL S W W' :=
  ⟨h.os, h.tape, h.output, h.size, fun i hi hn => h.block i hi (fun e => hn (e ▸ a)) (fun e => hn (e ▸ b)) (fun e => hn (e ▸ c))⟩
theorem KeepL.setCell (h : KeepL S W W1) {p : Addr} (hp : p.block ∈ S) (v : Value) : KeepL S W (W1.setCell p v) :=
  h.trans ⟨rfl, rfl, rfl, by simp [World.setCell], fun i _ a => heap_set_far v (fun e => a (e ▸ hp))⟩
theorem KeepL.drew (h : KeepL S W W1) : KeepL S W W1.drew := ⟨h.os, h.tape, h.output, h.size, h.block⟩
theorem KeepL.drewN (h : KeepL S W W1) (n : Nat) : KeepL S W (W1.drewN n) := ⟨h.os, h.tape, h.output, h.size, h.block⟩
theorem KeepL.below (h : KeepL S W W') {B : Nat} (a : ∀ k ∈ S, B ≤ k) (hB : B ≤ W.heap.size) : Below B W W' :=
  ⟨h.os, h.tape, h.output, h.size, fun k hk => h.block k (by omega) (fun hin => by have := a k hin; omega)⟩
theorem KeepL.heap (h : KeepL S W W') {b : Nat} {o : Obj} (hb : W.heap[b]? = some o) (hn : b ∉ S) : W'.heap[b]? = some o := (h.block b (lt_of_heap hb) hn).trans hb
end

/-- A thread that pins, in block p. -/
def InAt (W : World) (p : Nat) (pc ep : Int) : Prop := W.heap[p]? = some (.cells #[.int .i64 pc, .int .u64 ep] 91 (0, 0))

theorem in_ends {W1 : World} {p g gw gh : Nat} {m : Ms} {pc ep pc' ep' : Int} (hM : MemAt W1 g gw gh m) (hI : W1.heap[p]? = some (.cells #[.int .i64 pc, .int .u64 ep] 91 (0, 0))) (np : p ≠ g ∧ p ≠ gw ∧ p ≠ gh) :
    MemAt ((W1.setCell ⟨p, 1, none⟩ (.int .u64 ep')).setCell ⟨p, 0, none⟩ (.int .i64 pc')) g gw gh m ∧ InAt ((W1.setCell ⟨p, 1, none⟩ (.int .u64 ep')).setCell ⟨p, 0, none⟩ (.int .i64 pc')) p pc' ep' ∧
      KeepL [p, g, gw, gh] W1 ((W1.setCell ⟨p, 1, none⟩ (.int .u64 ep')).setCell ⟨p, 0, none⟩ (.int .i64 pc')) :=
  ⟨(hM.far (p := ⟨p, 1, none⟩) _ (Ne.symm np.1) (Ne.symm np.2.1) (Ne.symm np.2.2)).far (p := ⟨p, 0, none⟩) _ (Ne.symm np.1) (Ne.symm np.2.1) (Ne.symm np.2.2), heap_set_self 0 _ (heap_set_self 1 _ hI),
   (KeepL.refl.setCell (p := ⟨p, 1, none⟩) (by simp) _).setCell (p := ⟨p, 0, none⟩) (by simp) _⟩
theorem in_end0 {W1 : World} {p g gw gh : Nat} {m : Ms} {pc ep pc' : Int} (hM : MemAt W1 g gw gh m) (hI : W1.heap[p]? = some (.cells #[.int .i64 pc, .int .u64 ep] 91 (0, 0))) (np : p ≠ g ∧ p ≠ gw ∧ p ≠ gh) :
    MemAt (W1.setCell ⟨p, 0, none⟩ (.int .i64 pc')) g gw gh m ∧ InAt (W1.setCell ⟨p, 0, none⟩ (.int .i64 pc')) p pc' ep ∧ KeepL [p, g, gw, gh] W1 (W1.setCell ⟨p, 0, none⟩ (.int .i64 pc')) :=
  ⟨hM.far (p := ⟨p, 0, none⟩) _ (Ne.symm np.1) (Ne.symm np.2.1) (Ne.symm np.2.2), heap_set_self 0 _ hI, KeepL.refl.setCell (p := ⟨p, 0, none⟩) (by simp) _⟩
set_option maxHeartbeats 1000000 in
set_option maxRecDepth 100000 in
theorem PinStep0 (th sl ch wo ge sp tr who : Int) (g gw gh p : Nat) (m : Ms) (ep : Int) (W : World) (hM : MemAt W g gw gh m) (hI : InAt W p 0 ep) (np : p ≠ g ∧ p ≠ gw ∧ p ≠ gh) (h1 : 0 < m.n) (hs : m.steps < 4611686018427387904) :
    Calls Try.prog 60 #[.pointer (some ⟨p, 0, none⟩), .agg #[.int .i64 th, .int .i64 sl, .int .i64 ch, .int .i64 wo, .int .i64 ge, .int .i64 sp, .int .i64 tr, .pointer (some ⟨g, 0, none⟩), .int .i64 who]] W fun e W' => e = .returned (.bool false) ∧ MemAt W' g gw gh (m.ld who 0) ∧ InAt W' p 1 (m.w 0) ∧ KeepL [p, g, gw, gh] W W' := by
  have HX : (W.alloc (.cells #[.int .i64 th, .int .i64 sl, .int .i64 ch, .int .i64 wo, .int .i64 ge, .int .i64 sp, .int .i64 tr, .pointer (some ⟨g, 0, none⟩), .int .i64 who] 87)).heap[W.heap.size]? = some (.cells #[.int .i64 th, .int .i64 sl, .int .i64 ch, .int .i64 wo, .int .i64 ge, .int .i64 sp, .int .i64 tr, .pointer (some ⟨g, 0, none⟩), .int .i64 who] 87 (0, 0)) := heap_alloc_new W _
  have hM0 := hM.below (below_new W (.cells #[.int .i64 th, .int .i64 sl, .int .i64 ch, .int .i64 wo, .int .i64 ge, .int .i64 sp, .int .i64 tr, .pointer (some ⟨g, 0, none⟩), .int .i64 who] 87))
  have hI0 : (W.alloc (.cells #[.int .i64 th, .int .i64 sl, .int .i64 ch, .int .i64 wo, .int .i64 ge, .int .i64 sp, .int .i64 tr, .pointer (some ⟨g, 0, none⟩), .int .i64 who] 87)).heap[p]? = _ := (Below.heap_alloc W _ p (lt_of_heap hI)).trans hI
  have hB0 : KeepL [p, g, gw, gh] W (W.alloc (.cells #[.int .i64 th, .int .i64 sl, .int .i64 ch, .int .i64 wo, .int .i64 ge, .int .i64 sp, .int .i64 tr, .pointer (some ⟨g, 0, none⟩), .int .i64 who] 87)) := KeepL.of_below (below_new _ _)
  have n0 : W.heap.size ≠ p := by have := lt_of_heap hI; omega
  have n1 : W.heap.size ≠ g := by have := hM.lt; omega
  have n2 : W.heap.size ≠ gw := by have := hM.ltw; omega
  have n3 : W.heap.size ≠ gh := by have := hM.lth; omega
  have hp := lt_of_heap hI
  have c0 : W.cell? ⟨p, 0, none⟩ = _ := cell_of_row W p 0 _ _ _ hI
  go_enter Try.func60, Try.ntmps60
  go_wp2
  generalize hW0 : W.alloc (.cells #[.int .i64 th, .int .i64 sl, .int .i64 ch, .int .i64 wo, .int .i64 ge, .int .i64 sp, .int .i64 tr, .pointer (some ⟨g, 0, none⟩), .int .i64 who] 87) = W0 at HX hM0 hI0 hB0 ⊢
  clear hW0 hM hI c0
  have k0 := cell_of_row _ W.heap.size 0 _ _ _ HX
  have k1 := cell_of_row _ W.heap.size 1 _ _ _ HX
  have k2 := cell_of_row _ W.heap.size 2 _ _ _ HX
  have k3 := cell_of_row _ W.heap.size 3 _ _ _ HX
  have k4 := cell_of_row _ W.heap.size 4 _ _ _ HX
  have k5 := cell_of_row _ W.heap.size 5 _ _ _ HX
  have k6 := cell_of_row _ W.heap.size 6 _ _ _ HX
  have k7 := cell_of_row _ W.heap.size 7 _ _ _ HX
  have k8 := cell_of_row _ W.heap.size 8 _ _ _ HX
  have d0 := cell_of_row W0 p 0 _ _ _ hI0
  have d1 := cell_of_row W0 p 1 _ _ _ hI0
  have f0 := frozen_of 0 hI0
  have f1 := frozen_of 1 hI0
  (first | (go_region_with (first
    | (go_at_call 62; refine (LEpoch_any _).mono ?_; rintro e w9 ⟨rfl, hw⟩; obtain rfl := hw.symm; clear hw)
    | (go_at_call 82; refine (ELoad th sl ch wo ge sp tr who g gw gh m 0 _ hM0.drew h1 hs).mono ?_; rintro e W1 ⟨rfl, hM1, hK1⟩; have hI1 := hK1.heap (b := p) (W := W0.drew) hI0 np.1 np.2.1 np.2.2; clear d0 d1 f0 f1; have d0 := cell_of_row W1 p 0 _ _ _ hI1; have d1 := cell_of_row W1 p 1 _ _ _ hI1; have f0 := frozen_of 0 hI1; have f1 := frozen_of 1 hI1))) | fail)
  all_goals go_wp2
  all_goals go_ret
  all_goals
    obtain ⟨r1, r2, r3⟩ := in_ends (pc' := 1) (ep' := m.w 0) hM1 hI1 np
    exact ⟨rfl, r1, r2, (hB0.drew.trans (KeepL.of3 hK1 (by simp) (by simp) (by simp))).trans r3⟩
set_option maxHeartbeats 1000000 in
set_option maxRecDepth 100000 in
theorem PinStep1 (th sl ch wo ge sp tr who : Int) (g gw gh p : Nat) (m : Ms) (ep : Int) (W : World) (hM : MemAt W g gw gh m) (e' : Int) (hI : InAt W p 1 ep) (he : IntKind.u64.wrap (ep + 1) = e') (np : p ≠ g ∧ p ≠ gw ∧ p ≠ gh) (wk : Nat) (hwk : who = (wk : Int)) (hw8 : wk ≤ 100) (h1 : 6 + wk < m.n) (hs : m.steps < 4611686018427387904) :
    Calls Try.prog 60 #[.pointer (some ⟨p, 0, none⟩), .agg #[.int .i64 th, .int .i64 sl, .int .i64 ch, .int .i64 wo, .int .i64 ge, .int .i64 sp, .int .i64 tr, .pointer (some ⟨g, 0, none⟩), .int .i64 who]] W fun e W' => e = .returned (.bool false) ∧ MemAt W' g gw gh (m.st who (6 + wk) e') ∧ InAt W' p 2 ep ∧ KeepL [p, g, gw, gh] W W' := by
  have HX : (W.alloc (.cells #[.int .i64 th, .int .i64 sl, .int .i64 ch, .int .i64 wo, .int .i64 ge, .int .i64 sp, .int .i64 tr, .pointer (some ⟨g, 0, none⟩), .int .i64 who] 87)).heap[W.heap.size]? = some (.cells #[.int .i64 th, .int .i64 sl, .int .i64 ch, .int .i64 wo, .int .i64 ge, .int .i64 sp, .int .i64 tr, .pointer (some ⟨g, 0, none⟩), .int .i64 who] 87 (0, 0)) := heap_alloc_new W _
  have hM0 := hM.below (below_new W (.cells #[.int .i64 th, .int .i64 sl, .int .i64 ch, .int .i64 wo, .int .i64 ge, .int .i64 sp, .int .i64 tr, .pointer (some ⟨g, 0, none⟩), .int .i64 who] 87))
  have hI0 : (W.alloc (.cells #[.int .i64 th, .int .i64 sl, .int .i64 ch, .int .i64 wo, .int .i64 ge, .int .i64 sp, .int .i64 tr, .pointer (some ⟨g, 0, none⟩), .int .i64 who] 87)).heap[p]? = _ := (Below.heap_alloc W _ p (lt_of_heap hI)).trans hI
  have hB0 : KeepL [p, g, gw, gh] W (W.alloc (.cells #[.int .i64 th, .int .i64 sl, .int .i64 ch, .int .i64 wo, .int .i64 ge, .int .i64 sp, .int .i64 tr, .pointer (some ⟨g, 0, none⟩), .int .i64 who] 87)) := KeepL.of_below (below_new _ _)
  have n0 : W.heap.size ≠ p := by have := lt_of_heap hI; omega
  have n1 : W.heap.size ≠ g := by have := hM.lt; omega
  have n2 : W.heap.size ≠ gw := by have := hM.ltw; omega
  have n3 : W.heap.size ≠ gh := by have := hM.lth; omega
  have hp := lt_of_heap hI
  have c0 : W.cell? ⟨p, 0, none⟩ = _ := cell_of_row W p 0 _ _ _ hI
  have HWK0 := Lib.hid hwk
  clear hwk
  go_enter Try.func60, Try.ntmps60
  go_wp2
  generalize hW0 : W.alloc (.cells #[.int .i64 th, .int .i64 sl, .int .i64 ch, .int .i64 wo, .int .i64 ge, .int .i64 sp, .int .i64 tr, .pointer (some ⟨g, 0, none⟩), .int .i64 who] 87) = W0 at HX hM0 hI0 hB0 ⊢
  clear hW0 hM hI c0
  have k0 := cell_of_row _ W.heap.size 0 _ _ _ HX
  have k1 := cell_of_row _ W.heap.size 1 _ _ _ HX
  have k2 := cell_of_row _ W.heap.size 2 _ _ _ HX
  have k3 := cell_of_row _ W.heap.size 3 _ _ _ HX
  have k4 := cell_of_row _ W.heap.size 4 _ _ _ HX
  have k5 := cell_of_row _ W.heap.size 5 _ _ _ HX
  have k6 := cell_of_row _ W.heap.size 6 _ _ _ HX
  have k7 := cell_of_row _ W.heap.size 7 _ _ _ HX
  have k8 := cell_of_row _ W.heap.size 8 _ _ _ HX
  have d0 := cell_of_row W0 p 0 _ _ _ hI0
  have d1 := cell_of_row W0 p 1 _ _ _ hI0
  have f0 := frozen_of 0 hI0
  have f1 := frozen_of 1 hI0
  have hv : 0 ≤ e' ∧ e' < 18446744073709551616 := by
    rw [← he]
    have : IntKind.u64.wrap (ep + 1) = (ep + 1) % 18446744073709551616 := by simp [IntKind.wrap, IntKind.bits, IntKind.signed]
    rw [this]; omega
  have HK6 : Hid (6 + who = ((6 + wk : Nat) : Int)) := by have := HWK0.out; show 6 + who = ((6 + wk : Nat) : Int); omega
  have HWK : Hid (-10 ≤ who ∧ who ≤ 1000000) := by have := HWK0.out; show _ ∧ _; omega
  have HV := Lib.hid hv
  clear hv
  (first | (go_region_held3 (fun w' => w'.cell? ⟨W.heap.size, 0, none⟩ = some (.int .i64 th) ∧ w'.cell? ⟨W.heap.size, 1, none⟩ = some (.int .i64 sl) ∧ w'.cell? ⟨W.heap.size, 2, none⟩ = some (.int .i64 ch) ∧ w'.cell? ⟨W.heap.size, 3, none⟩ = some (.int .i64 wo) ∧ w'.cell? ⟨W.heap.size, 4, none⟩ = some (.int .i64 ge) ∧ w'.cell? ⟨W.heap.size, 5, none⟩ = some (.int .i64 sp) ∧ w'.cell? ⟨W.heap.size, 6, none⟩ = some (.int .i64 tr) ∧ w'.cell? ⟨W.heap.size, 7, none⟩ = some (.pointer (some ⟨g, 0, none⟩)) ∧ w'.cell? ⟨W.heap.size, 8, none⟩ = some (.int .i64 who) ∧ w'.cell? ⟨p, 0, none⟩ = some (.int .i64 1) ∧ w'.cell? ⟨p, 1, none⟩ = some (.int .u64 ep))
      (first
        | exact ⟨k0, k1, k2, k3, k4, k5, k6, k7, k8, d0, d1⟩
        | exact ⟨cell_of_row W1 W.heap.size 0 _ _ _ hX1, cell_of_row W1 W.heap.size 1 _ _ _ hX1, cell_of_row W1 W.heap.size 2 _ _ _ hX1, cell_of_row W1 W.heap.size 3 _ _ _ hX1, cell_of_row W1 W.heap.size 4 _ _ _ hX1, cell_of_row W1 W.heap.size 5 _ _ _ hX1, cell_of_row W1 W.heap.size 6 _ _ _ hX1, cell_of_row W1 W.heap.size 7 _ _ _ hX1, cell_of_row W1 W.heap.size 8 _ _ _ hX1, cell_of_row W1 p 0 _ _ _ hI1, cell_of_row W1 p 1 _ _ _ hI1⟩)
      (first
        | (go_at_call 61; refine (LPin_any _ _ HWK.out.1 HWK.out.2).mono ?_; rintro e w9 ⟨rfl, hw⟩; obtain rfl := hw.symm; clear hw)
        | (go_at_call 83; rw [HK6.out]; refine (EStore th sl ch wo ge sp tr who g gw gh m (6 + wk) e' _ hM0.drew h1 hs HV.out).mono ?_; rintro e W1 ⟨rfl, hM1, hK1⟩; have hI1 := hK1.heap (b := p) (W := W0.drew) hI0 np.1 np.2.1 np.2.2; have hX1 := hK1.heap (b := W.heap.size) (W := W0.drew) HX n1 n2 n3))) | fail)
  have e0 := frozen_of 0 hI1
  go_wp2
  go_ret
  obtain ⟨r1, r2, r3⟩ := in_end0 (pc' := 2) hM1 hI1 np
  exact ⟨rfl, r1, r2, (hB0.drew.trans (KeepL.of3 hK1 (by simp) (by simp) (by simp))).trans r3⟩
set_option maxHeartbeats 1000000 in
set_option maxRecDepth 100000 in
theorem PinStep2_done (th sl ch wo ge sp tr who : Int) (g gw gh p : Nat) (m : Ms) (ep : Int) (W : World) (hM : MemAt W g gw gh m) (hI : InAt W p 2 ep) (he : m.w 0 = ep) (np : p ≠ g ∧ p ≠ gw ∧ p ≠ gh) (h1 : 0 < m.n) (hs : m.steps < 4611686018427387904) :
    Calls Try.prog 60 #[.pointer (some ⟨p, 0, none⟩), .agg #[.int .i64 th, .int .i64 sl, .int .i64 ch, .int .i64 wo, .int .i64 ge, .int .i64 sp, .int .i64 tr, .pointer (some ⟨g, 0, none⟩), .int .i64 who]] W fun e W' => e = .returned (.bool true) ∧ MemAt W' g gw gh (m.ld who 0) ∧ InAt W' p 2 ep ∧ KeepL [p, g, gw, gh] W W' := by
  have HX : (W.alloc (.cells #[.int .i64 th, .int .i64 sl, .int .i64 ch, .int .i64 wo, .int .i64 ge, .int .i64 sp, .int .i64 tr, .pointer (some ⟨g, 0, none⟩), .int .i64 who] 87)).heap[W.heap.size]? = some (.cells #[.int .i64 th, .int .i64 sl, .int .i64 ch, .int .i64 wo, .int .i64 ge, .int .i64 sp, .int .i64 tr, .pointer (some ⟨g, 0, none⟩), .int .i64 who] 87 (0, 0)) := heap_alloc_new W _
  have hM0 := hM.below (below_new W (.cells #[.int .i64 th, .int .i64 sl, .int .i64 ch, .int .i64 wo, .int .i64 ge, .int .i64 sp, .int .i64 tr, .pointer (some ⟨g, 0, none⟩), .int .i64 who] 87))
  have hI0 : (W.alloc (.cells #[.int .i64 th, .int .i64 sl, .int .i64 ch, .int .i64 wo, .int .i64 ge, .int .i64 sp, .int .i64 tr, .pointer (some ⟨g, 0, none⟩), .int .i64 who] 87)).heap[p]? = _ := (Below.heap_alloc W _ p (lt_of_heap hI)).trans hI
  have hB0 : KeepL [p, g, gw, gh] W (W.alloc (.cells #[.int .i64 th, .int .i64 sl, .int .i64 ch, .int .i64 wo, .int .i64 ge, .int .i64 sp, .int .i64 tr, .pointer (some ⟨g, 0, none⟩), .int .i64 who] 87)) := KeepL.of_below (below_new _ _)
  have n0 : W.heap.size ≠ p := by have := lt_of_heap hI; omega
  have n1 : W.heap.size ≠ g := by have := hM.lt; omega
  have n2 : W.heap.size ≠ gw := by have := hM.ltw; omega
  have n3 : W.heap.size ≠ gh := by have := hM.lth; omega
  have hp := lt_of_heap hI
  have c0 : W.cell? ⟨p, 0, none⟩ = _ := cell_of_row W p 0 _ _ _ hI
  subst he
  go_enter Try.func60, Try.ntmps60
  go_wp2
  generalize hW0 : W.alloc (.cells #[.int .i64 th, .int .i64 sl, .int .i64 ch, .int .i64 wo, .int .i64 ge, .int .i64 sp, .int .i64 tr, .pointer (some ⟨g, 0, none⟩), .int .i64 who] 87) = W0 at HX hM0 hI0 hB0 ⊢
  clear hW0 hM hI c0
  have k0 := cell_of_row _ W.heap.size 0 _ _ _ HX
  have k1 := cell_of_row _ W.heap.size 1 _ _ _ HX
  have k2 := cell_of_row _ W.heap.size 2 _ _ _ HX
  have k3 := cell_of_row _ W.heap.size 3 _ _ _ HX
  have k4 := cell_of_row _ W.heap.size 4 _ _ _ HX
  have k5 := cell_of_row _ W.heap.size 5 _ _ _ HX
  have k6 := cell_of_row _ W.heap.size 6 _ _ _ HX
  have k7 := cell_of_row _ W.heap.size 7 _ _ _ HX
  have k8 := cell_of_row _ W.heap.size 8 _ _ _ HX
  have d0 := cell_of_row W0 p 0 _ _ _ hI0
  have d1 := cell_of_row W0 p 1 _ _ _ hI0
  have f0 := frozen_of 0 hI0
  have f1 := frozen_of 1 hI0
  (first | (go_region_with (first
    | (go_at_call 62; refine (LEpoch_any _).mono ?_; rintro e w9 ⟨rfl, hw⟩; obtain rfl := hw.symm; clear hw)
    | (go_at_call 82; refine (ELoad th sl ch wo ge sp tr who g gw gh m 0 _ hM0.drew h1 hs).mono ?_; rintro e W1 ⟨rfl, hM1, hK1⟩; have hI1 := hK1.heap (b := p) (W := W0.drew) hI0 np.1 np.2.1 np.2.2; clear d0 d1 f0 f1; have d0 := cell_of_row W1 p 0 _ _ _ hI1; have d1 := cell_of_row W1 p 1 _ _ _ hI1; have f0 := frozen_of 0 hI1; have f1 := frozen_of 1 hI1))) | fail)
  all_goals go_wp2
  all_goals go_ret
  all_goals exact ⟨rfl, hM1, hI1, hB0.drew.trans (KeepL.of3 hK1 (by simp) (by simp) (by simp))⟩
set_option maxHeartbeats 1000000 in
set_option maxRecDepth 100000 in
theorem PinStep2_again (th sl ch wo ge sp tr who : Int) (g gw gh p : Nat) (m : Ms) (ep : Int) (W : World) (hM : MemAt W g gw gh m) (hI : InAt W p 2 ep) (he : m.w 0 ≠ ep) (np : p ≠ g ∧ p ≠ gw ∧ p ≠ gh) (h1 : 0 < m.n) (hs : m.steps < 4611686018427387904) :
    Calls Try.prog 60 #[.pointer (some ⟨p, 0, none⟩), .agg #[.int .i64 th, .int .i64 sl, .int .i64 ch, .int .i64 wo, .int .i64 ge, .int .i64 sp, .int .i64 tr, .pointer (some ⟨g, 0, none⟩), .int .i64 who]] W fun e W' => e = .returned (.bool false) ∧ MemAt W' g gw gh (m.ld who 0) ∧ InAt W' p 1 (m.w 0) ∧ KeepL [p, g, gw, gh] W W' := by
  have HX : (W.alloc (.cells #[.int .i64 th, .int .i64 sl, .int .i64 ch, .int .i64 wo, .int .i64 ge, .int .i64 sp, .int .i64 tr, .pointer (some ⟨g, 0, none⟩), .int .i64 who] 87)).heap[W.heap.size]? = some (.cells #[.int .i64 th, .int .i64 sl, .int .i64 ch, .int .i64 wo, .int .i64 ge, .int .i64 sp, .int .i64 tr, .pointer (some ⟨g, 0, none⟩), .int .i64 who] 87 (0, 0)) := heap_alloc_new W _
  have hM0 := hM.below (below_new W (.cells #[.int .i64 th, .int .i64 sl, .int .i64 ch, .int .i64 wo, .int .i64 ge, .int .i64 sp, .int .i64 tr, .pointer (some ⟨g, 0, none⟩), .int .i64 who] 87))
  have hI0 : (W.alloc (.cells #[.int .i64 th, .int .i64 sl, .int .i64 ch, .int .i64 wo, .int .i64 ge, .int .i64 sp, .int .i64 tr, .pointer (some ⟨g, 0, none⟩), .int .i64 who] 87)).heap[p]? = _ := (Below.heap_alloc W _ p (lt_of_heap hI)).trans hI
  have hB0 : KeepL [p, g, gw, gh] W (W.alloc (.cells #[.int .i64 th, .int .i64 sl, .int .i64 ch, .int .i64 wo, .int .i64 ge, .int .i64 sp, .int .i64 tr, .pointer (some ⟨g, 0, none⟩), .int .i64 who] 87)) := KeepL.of_below (below_new _ _)
  have n0 : W.heap.size ≠ p := by have := lt_of_heap hI; omega
  have n1 : W.heap.size ≠ g := by have := hM.lt; omega
  have n2 : W.heap.size ≠ gw := by have := hM.ltw; omega
  have n3 : W.heap.size ≠ gh := by have := hM.lth; omega
  have hp := lt_of_heap hI
  have c0 : W.cell? ⟨p, 0, none⟩ = _ := cell_of_row W p 0 _ _ _ hI
  have e1 : (m.w 0 == ep) = false := beq_eq_false_iff_ne.2 he
  clear he
  go_enter Try.func60, Try.ntmps60
  go_wp2
  generalize hW0 : W.alloc (.cells #[.int .i64 th, .int .i64 sl, .int .i64 ch, .int .i64 wo, .int .i64 ge, .int .i64 sp, .int .i64 tr, .pointer (some ⟨g, 0, none⟩), .int .i64 who] 87) = W0 at HX hM0 hI0 hB0 ⊢
  clear hW0 hM hI c0
  have k0 := cell_of_row _ W.heap.size 0 _ _ _ HX
  have k1 := cell_of_row _ W.heap.size 1 _ _ _ HX
  have k2 := cell_of_row _ W.heap.size 2 _ _ _ HX
  have k3 := cell_of_row _ W.heap.size 3 _ _ _ HX
  have k4 := cell_of_row _ W.heap.size 4 _ _ _ HX
  have k5 := cell_of_row _ W.heap.size 5 _ _ _ HX
  have k6 := cell_of_row _ W.heap.size 6 _ _ _ HX
  have k7 := cell_of_row _ W.heap.size 7 _ _ _ HX
  have k8 := cell_of_row _ W.heap.size 8 _ _ _ HX
  have d0 := cell_of_row W0 p 0 _ _ _ hI0
  have d1 := cell_of_row W0 p 1 _ _ _ hI0
  have f0 := frozen_of 0 hI0
  have f1 := frozen_of 1 hI0
  (first | (go_region_with (first
    | (go_at_call 62; refine (LEpoch_any _).mono ?_; rintro e w9 ⟨rfl, hw⟩; obtain rfl := hw.symm; clear hw)
    | (go_at_call 82; refine (ELoad th sl ch wo ge sp tr who g gw gh m 0 _ hM0.drew h1 hs).mono ?_; rintro e W1 ⟨rfl, hM1, hK1⟩; have hI1 := hK1.heap (b := p) (W := W0.drew) hI0 np.1 np.2.1 np.2.2; clear d0 d1 f0 f1; have d0 := cell_of_row W1 p 0 _ _ _ hI1; have d1 := cell_of_row W1 p 1 _ _ _ hI1; have f0 := frozen_of 0 hI1; have f1 := frozen_of 1 hI1))) | fail)
  all_goals go_wp2
  all_goals go_ret
  all_goals
    obtain ⟨r1, r2, r3⟩ := in_ends (pc' := 1) (ep' := m.w 0) hM1 hI1 np
    exact ⟨rfl, r1, r2, (hB0.drew.trans (KeepL.of3 hK1 (by simp) (by simp) (by simp))).trans r3⟩
end Go.Proofs.Ytnpjfdiapoghnaa
