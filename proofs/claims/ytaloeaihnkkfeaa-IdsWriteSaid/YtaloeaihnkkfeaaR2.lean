import Derived.Test.YtaloeaihnkkfeaaR1
import Derived.LoopTactic
namespace Go.Proofs.Ytaloeaihnkkfeaa
open Go.RowKit

/-- The first k categories of the one are the other's. -/
def AllUp (c d : Int) (k : Nat) : Prop := ∀ j, j < k → hasB c j = true → hasB d j = true
theorem AllUp.zero (c d : Int) : AllUp c d 0 := fun _ h => absurd h (by omega)
theorem AllUp.succ {c d : Int} {k : Nat} (h : AllUp c d k) (hb : hasB c k = false ∨ hasB d k = true) : AllUp c d (k + 1) := fun j hj hc => by
  by_cases e : j = k
  · subst e; rcases hb with hb | hb
    · rw [hb] at hc; exact absurd hc (by simp)
    · exact hb
  · exact h j (by omega) hc
theorem hasB_high (c : Int) (hc : U32 c) (j : Nat) (hj : 32 ≤ j) : hasB c j = false := by
  unfold hasB
  exact Nat.testBit_lt_two_pow (Nat.lt_of_lt_of_le (m := 4294967296) (by have := hc.1; have := hc.2; omega) (by have := Nat.pow_le_pow_right (n := 2) (by omega) hj; simpa using this))
theorem AllUp.lq {c d : Int} (hc : U32 c) (hd : U32 d) (h : AllUp c d 32) : lq c d = true := (lq_iff c d hc hd).2 fun j hj => by
  by_cases e : j < 32
  · exact h j e hj
  · have := hasB_high c hc j (by omega); unfold hasB at this; rw [this] at hj; exact absurd hj (by simp)
theorem lq_not {c d : Int} (hc : U32 c) (hd : U32 d) {k : Nat} (h1 : hasB c k = true) (h2 : hasB d k = false) : lq c d = false := by
  cases h : lq c d
  · rfl
  · have := (lq_iff c d hc hd).1 h k h1; unfold hasB at h2; rw [h2] at this; exact absurd this (by simp)

theorem has_is (l c : Int) (n : Nat) (r : Bool) (w : World) (hn : n < 32) (h0 : 0 ≤ c) (h1 : c < 4294967296) (h : hasB c n = r) :
    Calls Try.prog 58 #[.agg #[.int .u8 l, .int .u32 c], .int .i64 n] w fun e w' => e = .returned (.bool r) ∧ Below w.heap.size w w' := by
  subst h; exact has_any l c n w hn h0 h1

theorem box2 (w : World) (l c m d : Int) : ∀ W, W = (w.alloc (.cells #[.int .u8 l, .int .u32 c] 24)).alloc (.cells #[.int .u8 m, .int .u32 d] 24) →
    Below w.heap.size w W ∧ Two W w.heap.size (.int .u8 l) (.int .u32 c) ∧ Two W (w.heap.size + 1) (.int .u8 m) (.int .u32 d) := by
  rintro W rfl
  refine ⟨below_alloc (below_alloc (Below.refl _ _) _) _, (Two.new w _ _ 24).alloc _, ?_⟩
  have := Two.new (w.alloc (.cells #[.int .u8 l, .int .u32 c] 24)) (.int .u8 m) (.int .u32 d) 24
  simpa using this

set_option maxRecDepth 100000 in
set_option maxHeartbeats 1000000 in
theorem rleq_any (l c m d : Int) (w : World) (bc : U32 c) (bd : U32 d) :
    Calls Try.prog 27 #[.agg #[.int .u8 l, .int .u32 c], .agg #[.int .u8 m, .int .u32 d]] w fun e w' => e = .returned (.bool (leqB l c m d)) ∧ Below w.heap.size w w' := by
  rw [leqB_eq]
  have bc' := id bc
  have bd' := id bd
  obtain ⟨bc0, bc1⟩ := bc
  obtain ⟨bd0, bd1⟩ := bd
  go_enter Try.func27, Try.ntmps27
  go_wp2_with fail
  obtain ⟨B, TA, TB⟩ := box2 w l c m d _ rfl
  generalize (World.alloc (World.alloc w _) _) = W at B TA TB ⊢
  obtain ⟨x, hx'⟩ := ext_at W
  rw [hx']; clear hx'
  obtain ⟨a0, a1, a2⟩ := TA
  obtain ⟨b0, b1, b2⟩ := TB
  have hne := ext_ne W
  go_loopw [5] (fun i wr => ∃ k : Nat, k ≤ 32 ∧ i = .int .i64 k ∧ AllUp c d k ∧ ∃ x : Ext W, wr = x.at') (fun i _ => 32 - (intOf i).toNat)
  case atStart => exact ⟨0, by omega, rfl, AllUp.zero _ _, x, rfl⟩
  case round =>
    obtain ⟨k, hk, rfl, hall, y, rfl⟩ := hrel
    replace hall : Hid (AllUp c d k) := hall
    by_cases hlt : k < 32
    · cases h1 : hasB c k
      · go_wp2_with (go_at_call 58; (with_reducible refine (Calls.ext (has_is _ _ k _ _ hlt bc0 bc1 h1)).mono ?_); rintro _ _ ⟨rfl, _, rfl⟩)
        go_roundw
        case rel => exact ⟨k + 1, by omega, by go_num, AllUp.succ hall (.inl h1), _, rfl⟩
        case measure => simp [intOf]; omega
      · cases h2 : hasB d k
        · have HL := lq_not bc' bd' h1 h2
          go_wp2_with (first | (go_at_call 58; (with_reducible refine (Calls.ext (has_is _ _ k _ _ hlt bc0 bc1 h1)).mono ?_); rintro _ _ ⟨rfl, _, rfl⟩) | (go_at_call 58; (with_reducible refine (Calls.ext (has_is _ _ k _ _ hlt bd0 bd1 h2)).mono ?_); rintro _ _ ⟨rfl, _, rfl⟩))
          go_ret
          exact ⟨ret_bool (by rw [HL]; simp), ext_below B _⟩
        · go_wp2_with (first | (go_at_call 58; (with_reducible refine (Calls.ext (has_is _ _ k _ _ hlt bc0 bc1 h1)).mono ?_); rintro _ _ ⟨rfl, _, rfl⟩) | (go_at_call 58; (with_reducible refine (Calls.ext (has_is _ _ k _ _ hlt bd0 bd1 h2)).mono ?_); rintro _ _ ⟨rfl, _, rfl⟩))
          go_roundw
          case rel => exact ⟨k + 1, by omega, by go_num, AllUp.succ hall (.inr h2), _, rfl⟩
          case measure => simp [intOf]; omega
    · obtain rfl : k = 32 := by omega
      go_wp2
      go_ret
      exact ⟨ret_bool (by rw [AllUp.lq bc' bd' hall]; simp), ext_below B _⟩

end Go.Proofs.Ytaloeaihnkkfeaa
