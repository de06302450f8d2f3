import Derived.Test.YtaloeaihnkkfeaaRows
import Derived.WalkKit
import Derived.WalkSpells
import Derived.WalkLawsBesides
namespace Go.Proofs.Ytaloeaihnkkfeaa
open Go.RowKit

/-- A label's check, as a number. -/
def chk (l : Int) : Int := if l ≤ 15 then 0 else 8
def leqB (l c m d : Int) : Bool := decide (l ≤ m) && (bits .andNot .u32 c d == 0)
def aheadB (l c m d : Int) : Bool := decide (l < m) || (l == m && decide (c < d))

set_option maxHeartbeats 400000 in
theorem check_any (l c : Int) (w : World) :
    Calls Try.prog 17 #[.agg #[.int .u8 l, .int .u32 c]] w fun e w' => e = .returned (.int .i64 (chk l)) ∧ Below w.heap.size w w' := by
  by_cases h : l ≤ 15
  · rw [show chk l = 0 from if_pos h]
    go_enter Try.func17, Try.ntmps17
    go_wp2
    go_ret
    exact ⟨rfl, (Below.refl _ _).alloc (Nat.le_refl _) _⟩
  · rw [show chk l = 8 from if_neg h]
    go_enter Try.func17, Try.ntmps17
    go_wp2
    go_ret
    exact ⟨rfl, (Below.refl _ _).alloc (Nat.le_refl _) _⟩

set_option maxHeartbeats 400000 in
theorem leq_any (l c m d : Int) (w : World) :
    Calls Try.prog 18 #[.agg #[.int .u8 l, .int .u32 c], .agg #[.int .u8 m, .int .u32 d]] w fun e w' => e = .returned (.bool (leqB l c m d)) ∧ Below w.heap.size w w' := by
  by_cases h : l ≤ m
  · rw [show leqB l c m d = (bits .andNot .u32 c d == 0) by simp [leqB, h]]
    go_enter Try.func18, Try.ntmps18
    go_wp2
    go_ret
    exact ⟨rfl, ((Below.refl _ _).alloc (Nat.le_refl _) _).alloc (by simp) _⟩
  · rw [show leqB l c m d = false by simp [leqB, h]]
    go_enter Try.func18, Try.ntmps18
    go_wp2
    go_ret
    exact ⟨rfl, ((Below.refl _ _).alloc (Nat.le_refl _) _).alloc (by simp) _⟩

set_option maxHeartbeats 400000 in
theorem of_any (l c : Int) (w : World) :
    Calls Try.prog 21 #[.int .u8 l, .int .u32 c] w fun e w' => e = .returned (.agg #[.int .u8 l, .int .u32 c]) ∧ Below w.heap.size w w' := by
  go_enter Try.func21, Try.ntmps21
  go_wp2
  refine bodyPost_ret (v := .agg #[.int .u8 l, .int .u32 c]) (by simp [results, Try.results21, go_sem]) rfl ⟨rfl, ?_⟩
  exact (Below.refl _ _).alloc (Nat.le_refl _) _

set_option maxHeartbeats 400000 in
theorem least_any (w : World) :
    Calls Try.prog 19 #[] w fun e w' => e = .returned (.agg #[.int .u8 0, .int .u32 0]) ∧ Below w.heap.size w w' := by
  go_enter Try.func19, Try.ntmps19
  go_wp2
  refine bodyPost_ret (v := .agg #[.int .u8 0, .int .u32 0]) (by simp [results, Try.results19, go_sem]) rfl ⟨rfl, ?_⟩
  exact (Below.refl _ _).alloc (Nat.le_refl _) _

set_option maxHeartbeats 400000 in
theorem greatest_any (w : World) :
    Calls Try.prog 20 #[] w fun e w' => e = .returned (.agg #[.int .u8 15, .int .u32 4294967295]) ∧ Below w.heap.size w w' := by
  go_enter Try.func20, Try.ntmps20
  go_wp2
  refine bodyPost_ret (v := .agg #[.int .u8 15, .int .u32 4294967295]) (by simp [results, Try.results20, go_sem]) rfl ⟨rfl, ?_⟩
  exact (Below.refl _ _).alloc (Nat.le_refl _) _

set_option maxHeartbeats 400000 in
theorem ahead_any (l c m d : Int) (w : World) :
    Calls Try.prog 22 #[.agg #[.int .u8 l, .int .u32 c], .agg #[.int .u8 m, .int .u32 d]] w fun e w' => e = .returned (.bool (aheadB l c m d)) ∧ Below w.heap.size w w' := by
  by_cases h : l < m
  · rw [show aheadB l c m d = true by simp [aheadB, h]]
    go_enter Try.func22, Try.ntmps22
    go_wp2
    go_ret
    exact ⟨rfl, (((Below.refl _ _).alloc (Nat.le_refl _) _).alloc (by simp) _).alloc (by simp; omega) _⟩
  · by_cases h2 : l = m
    · subst h2
      rw [show aheadB l c l d = decide (c < d) by simp [aheadB]]
      go_enter Try.func22, Try.ntmps22
      go_wp2
      go_ret
      exact ⟨rfl, (((Below.refl _ _).alloc (Nat.le_refl _) _).alloc (by simp) _).alloc (by simp; omega) _⟩
    · have h3 : (l == m) = false := by simpa using h2
      rw [show aheadB l c m d = false by simp [aheadB, h, h3]]
      go_enter Try.func22, Try.ntmps22
      go_wp2
      go_ret
      exact ⟨rfl, (((Below.refl _ _).alloc (Nat.le_refl _) _).alloc (by simp) _).alloc (by simp; omega) _⟩

end Go.Proofs.Ytaloeaihnkkfeaa
