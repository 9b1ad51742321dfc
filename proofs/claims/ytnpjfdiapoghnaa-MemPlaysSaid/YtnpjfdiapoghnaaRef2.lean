/- The reference's Get: the numbers of a word, by remainders and quotients, in a row of its own. -/
import Derived.Test.YtnpjfdiapoghnaaRef1
import Derived.Outline
namespace Go.Proofs.Ytnpjfdiapoghnaa
open Go Go.RowKit

theorem div_div (a b c : Int) (h : 0 ≤ b) : a / b / c = a / (b * c) := by
  rw [Int.ediv_ediv, if_neg (by omega)]; omega
/-- A new block of one cell holds that cell. -/
theorem news1 (w : World) (v : Value) (e : TypeId) : ∀ j u, [v][j]? = some u → (w.alloc (.cells #[v] e)).cell? ((⟨w.heap.size, 0, none⟩ : Addr).add j) = some u := by
  intro j u hj
  match j, hj with
  | 0, hj => simp at hj; subst hj; rw [show (⟨w.heap.size, 0, none⟩ : Addr).add 0 = ⟨w.heap.size, 0, none⟩ from rfl, World.cell?_alloc_at _ _ _ _ rfl]; rfl
/-- The k-th number of a word. -/
def getAt (n : Int) (b : Nat → Nat) (k : Nat) : Int := n / ((2 ^ bitsTo b k : Nat) : Int) % ((2 ^ b k : Nat) : Int)
theorem Try.info3 : (Try.prog.info? 3).map (fun i => (i.zero, i.size, i.bytes)) = some (some (.int .i64 0), 1, 8) := by kernel_rfl
def getList (n : Int) (b : Nat → Nat) (k : Nat) : List Value := (List.range k).map fun j => .int .i64 (getAt n b j)
theorem getList_succ (n : Int) (b : Nat → Nat) (k : Nat) : getList n b (k + 1) = getList n b k ++ [.int .i64 (getAt n b k)] := by
  unfold getList; rw [List.range_succ, List.map_append]; rfl
theorem getList_length (n : Int) (b : Nat → Nat) (k : Nat) : (getList n b k).length = k := by unfold getList; simp
theorem getList_get (n : Int) (b : Nat → Nat) (k j : Nat) (h : j < k) : (getList n b k)[j]? = some (.int .i64 (getAt n b j)) := by
  unfold getList; simp [h]

set_option maxRecDepth 100000 in
theorem Get_any (b2 n : Nat) (x : Int) (b : Nat → Nat) (w : World) (hn : n ≤ 64) (hlt2 : b2 < w.heap.size) (hS : bitsTo b n ≤ 64) (h0 : 0 ≤ x) (h1 : x < 18446744073709551616)
    (hb : ∀ j, j < n → w.cell? ⟨b2, j, none⟩ = some (.int .i64 (b j))) (hp : ∀ j, j < n → 1 ≤ b j ∧ b j ≤ 62) :
    Calls Try.prog 77 #[.int .u64 x, .slice (some ⟨b2, 0, none⟩) n n] w fun e w' => ∃ v, e = .returned v ∧ w'.ownsRow w.heap.size 3 1 v n (getList x b n) ∧ Below w.heap.size w w' := by
  have HB := Lib.hid hb
  have HP := Lib.hid hp
  clear hb hp
  obtain ⟨i0, hi, hz0, hz1, hz2⟩ := info_parts Try.info3
  go_enter Try.func77, Try.ntmps77
  go_wp2
  have hown0 : (w.alloc (.cells #[] 3)).ownsRow w.heap.size 3 1 (.slice (some ⟨w.heap.size, 0, none⟩) 0 0) 0 (getList x b 0) := World.ownsRow_made w #[] 0 (Nat.le_refl _) (by unfold maxLen; omega) rfl
  go_loopw [0, 5, 6] (fun y v i wr => ∃ k : Nat, k ≤ n ∧ i = .int .i64 k ∧ y = .int .u64 (x / ((2 ^ bitsTo b k : Nat) : Int)) ∧ wr.ownsRow w.heap.size 3 1 v k (getList x b k) ∧ Below w.heap.size w wr) (fun _ _ i _ => n - (intOf i).toNat)
  case atStart => exact ⟨0, by omega, rfl, by simp [bitsTo], hown0, below_new _ _⟩
  case round =>
    rename_i wr
    obtain ⟨k, hk, rfl, rfl, hown, hbel⟩ := hrel
    by_cases hlt : k < n
    · have hbk : wr.cell? ⟨b2, k, none⟩ = some (.int .i64 (b k)) := (hbel.cell hlt2).trans (HB.out k hlt)
      have hpk := HP.out k hlt
      have hm := bitsTo_mono b (k + 1) n (by omega)
      have hm' : bitsTo b k + b k ≤ 64 := by simp only [bitsTo] at hm; omega
      have p1 := pow_pos_int (b k)
      have u1 := pow_pos_int (bitsTo b k)
      have pl : ((2 ^ b k : Nat) : Int) ≤ 4611686018427387904 := by
        have : 2 ^ b k ≤ 2 ^ 62 := Nat.pow_le_pow_right (by omega) hpk.2
        omega
      have hq0 : 0 ≤ x / ((2 ^ bitsTo b k : Nat) : Int) := Int.ediv_nonneg h0 (by omega)
      have hq1 : x / ((2 ^ bitsTo b k : Nat) : Int) < 18446744073709551616 := Int.lt_of_le_of_lt (Int.ediv_le_self _ h0) h1
      have HD := Lib.hid (show x / ((2 ^ bitsTo b (k + 1) : Nat) : Int) = x / ((2 ^ bitsTo b k : Nat) : Int) / ((2 ^ b k : Nat) : Int) from by
        simp only [bitsTo]; rw [pow_add_int]; exact (div_div _ _ _ (by omega)).symm)
      have HG := Lib.hid (show getAt x b k = x / ((2 ^ bitsTo b k : Nat) : Int) % ((2 ^ b k : Nat) : Int) from rfl)
      have HL := Lib.hid (getList_succ x b k)
      have HPW : Hid (∀ w : World, Calls Try.prog 76 #[.int .i64 (b k)] w fun e w' => e = .returned (.int .u64 ((2 ^ b k : Nat) : Int)) ∧ w' = w) := fun w => Power_any (b k) w (by omega)
      generalize ((2 ^ b k : Nat) : Int) = P at *
      generalize x / ((2 ^ bitsTo b k : Nat) : Int) = y at *
      have r0 : 0 ≤ y % P := Int.emod_nonneg _ (by omega)
      have r1 : y % P < P := Int.emod_lt_of_pos _ (by omega)
      have r2 : 0 ≤ y / P := Int.ediv_nonneg hq0 (by omega)
      have r3 : y / P < 18446744073709551616 := Int.lt_of_le_of_lt (Int.ediv_le_self _ hq0) hq1
      have r4 : y % P < 9223372036854775808 := by omega
      have hz := hbel.size
      clear hm hm' hpk
      go_wp2_with (first | (go_at_call 76; refine (HPW.out _).mono ?_; rintro e w' ⟨rfl, hw'⟩; obtain rfl := hw'.symm; clear hw') | (at_builtin; refine wpList_append_own _ rfl _ _ 30 rfl w.heap.size 3 i0 (.int .i64 0) 1 8 Try.underlying30 hi hz0 hz1 hz2 rfl (by decide) _ _ _ rfl (hown.alloc _) ⟨wr.heap.size, 0, none⟩ 1 1 [.int .i64 (y % P)] rfl rfl ?c1 ?c2 ?c3 ?c4 ?c5 ?_))
      case c1 => exact news1 _ _ _
      case c2 => intro u hu; simp at hu; subst hu; rfl
      case c3 => unfold maxLen; omega
      case c4 => omega
      case c5 => simp; omega
      intro v' w1 hown' hgrow hnil
      have hb1 : Below w.heap.size w w1 := (hbel.alloc hz _).grown hgrow (by simp; omega) (fun q hq => (hown.lt q hq).1)
      have hbk1 : w1.cell? ⟨b2, k, none⟩ = some (.int .i64 (b k)) := (hb1.cell hlt2).trans (HB.out k hlt)
      clear hown hbel hbk hgrow hnil hz
      go_wp2_with (first | (go_at_call 76; refine (HPW.out _).mono ?_; rintro e w' ⟨rfl, hw'⟩; obtain rfl := hw'.symm; clear hw'))
      go_roundw
      case rel => exact ⟨k + 1, by omega, by go_num, by rw [HD.out], by rw [HL.out, HG.out]; exact hown', hb1⟩
      case measure => simp [intOf]; omega
    · obtain rfl : k = n := by omega
      go_wp2
      go_ret
      exact ⟨_, rfl, hown, hbel⟩

theorem Get_row (b2 n : Nat) (x : Int) (b : Nat → Nat) (w : World) (hn0 : 0 < n) (hn : n ≤ 64) (hlt2 : b2 < w.heap.size) (hS : bitsTo b n ≤ 64) (h0 : 0 ≤ x) (h1 : x < 18446744073709551616)
    (hb : ∀ j, j < n → w.cell? ⟨b2, j, none⟩ = some (.int .i64 (b j))) (hp : ∀ j, j < n → 1 ≤ b j ∧ b j ≤ 62) :
    Calls Try.prog 77 #[.int .u64 x, .slice (some ⟨b2, 0, none⟩) n n] w fun e w' => ∃ g cap, e = .returned (.slice (some ⟨g, 0, none⟩) n cap) ∧ (∀ j, j < n → w'.cell? ⟨g, j, none⟩ = some (.int .i64 (getAt x b j))) ∧ Below w.heap.size w w' := by
  refine (Get_any b2 n x b w hn hlt2 hS h0 h1 hb hp).mono ?_
  rintro e w' ⟨v, rfl, hown, hb⟩
  have hown' := hown
  rcases hown.2 with ⟨_, h⟩ | ⟨g, cap, cur, rfl, _⟩
  · omega
  · exact ⟨g, cap, rfl, fun j hj => (hown'.cellAt j (by omega)).trans (getList_get x b n j hj), hb⟩
end Go.Proofs.Ytnpjfdiapoghnaa
