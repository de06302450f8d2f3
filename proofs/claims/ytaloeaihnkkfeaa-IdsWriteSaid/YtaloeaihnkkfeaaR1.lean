import Derived.Test.YtaloeaihnkkfeaaB1
import Derived.Outline
namespace Go.Proofs.Ytaloeaihnkkfeaa
open Go.RowKit

def mayB (l : Int) : Bool := decide (l ≤ 15)
def hasB (c : Int) (n : Nat) : Bool := c.toNat.testBit n

theorem ret_bool {a b : Bool} (h : a = b) : Ending.returned (.bool a) = .returned (.bool b) := by rw [h]
theorem bit_is (c : Int) (n : Nat) (h : 0 ≤ c) : ((c / 2 ^ n).tmod 2 == 1) = hasB c n := by
  obtain ⟨k, rfl⟩ := Int.eq_ofNat_of_zero_le h
  unfold hasB
  rw [Nat.testBit_eq_decide_div_mod_eq, Int.toNat_natCast]
  have e1 : ((k : Int) / 2 ^ n) = ((k / 2 ^ n : Nat) : Int) := by simp
  rw [e1, Int.tmod_eq_emod_of_nonneg (Int.natCast_nonneg _), Bool.eq_iff_iff]
  simp
  omega
theorem ahead_num (l c m d : Int) (_bl : 0 ≤ l ∧ l ≤ 255) (bc : 0 ≤ c ∧ c < 4294967296) (_bm : 0 ≤ m ∧ m ≤ 255) (bd : 0 ≤ d ∧ d < 4294967296) :
    decide (l * 4294967296 + c < m * 4294967296 + d) = aheadB l c m d := by
  rw [Bool.eq_iff_iff]
  unfold aheadB
  simp
  omega

set_option maxHeartbeats 400000 in
theorem may1_any (l c : Int) (w : World) : Calls Try.prog 56 #[.agg #[.int .u8 l, .int .u32 c]] w fun e w' => e = .returned (.bool (mayB l)) ∧ Below w.heap.size w w' := by
  go_enter Try.func56, Try.ntmps56
  go_wp2
  go_ret
  exact ⟨rfl, below_alloc (Below.refl _ _) _⟩

set_option maxHeartbeats 400000 in
theorem has_any (l c : Int) (n : Nat) (w : World) (hn : n < 32) (h0 : 0 ≤ c) (_h1 : c < 4294967296) :
    Calls Try.prog 58 #[.agg #[.int .u8 l, .int .u32 c], .int .i64 n] w fun e w' => e = .returned (.bool (hasB c n)) ∧ Below w.heap.size w w' := by
  go_enter Try.func58, Try.ntmps58
  go_wp2
  go_ret
  exact ⟨ret_bool (bit_is c n h0), below_alloc (Below.refl _ _) _⟩

set_option maxHeartbeats 400000 in
theorem rahead_any (l c m d : Int) (w : World) (bl : 0 ≤ l ∧ l ≤ 255) (bc : 0 ≤ c ∧ c < 4294967296) (bm : 0 ≤ m ∧ m ≤ 255) (bd : 0 ≤ d ∧ d < 4294967296) :
    Calls Try.prog 28 #[.agg #[.int .u8 l, .int .u32 c], .agg #[.int .u8 m, .int .u32 d]] w fun e w' => e = .returned (.bool (aheadB l c m d)) ∧ Below w.heap.size w w' := by
  obtain ⟨bl0, bl1⟩ := bl
  obtain ⟨bc0, bc1⟩ := bc
  obtain ⟨bm0, bm1⟩ := bm
  obtain ⟨bd0, bd1⟩ := bd
  go_enter Try.func28, Try.ntmps28
  go_wp2
  go_ret
  exact ⟨ret_bool (ahead_num l c m d ⟨bl0, bl1⟩ ⟨bc0, bc1⟩ ⟨bm0, bm1⟩ ⟨bd0, bd1⟩), below_alloc (below_alloc (Below.refl _ _) _) _⟩

set_option maxHeartbeats 400000 in
theorem rgreatest_any (w : World) :
    Calls Try.prog 25 #[] w fun e w' => e = .returned (.agg #[.int .u8 15, .int .u32 4294967295]) ∧ Below w.heap.size w w' := by
  go_enter Try.func25, Try.ntmps25
  go_wp2
  refine bodyPost_ret (v := .agg #[.int .u8 15, .int .u32 4294967295]) (by simp [results, Try.results25, go_sem]) rfl ⟨rfl, ?_⟩
  exact (Below.refl _ _).alloc (Nat.le_refl _) _

set_option maxHeartbeats 400000 in
theorem rcheck_any (l c : Int) (w : World) :
    Calls Try.prog 26 #[.agg #[.int .u8 l, .int .u32 c]] w fun e w' => e = .returned (.int .i64 (chk l)) ∧ Below w.heap.size w w' := by
  by_cases h : l ≤ 15
  · rw [show chk l = 0 from if_pos h]
    go_enter Try.func26, Try.ntmps26
    go_wp2
    go_ret
    exact ⟨rfl, below_alloc (below_alloc (Below.refl _ _) _) _⟩
  · rw [show chk l = 8 from if_neg h]
    go_enter Try.func26, Try.ntmps26
    go_wp2
    go_ret
    exact ⟨rfl, below_alloc (below_alloc (Below.refl _ _) _) _⟩

end Go.Proofs.Ytaloeaihnkkfeaa
