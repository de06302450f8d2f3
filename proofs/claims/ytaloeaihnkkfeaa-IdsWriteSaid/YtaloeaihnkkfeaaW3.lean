import Derived.Test.YtaloeaihnkkfeaaT5
namespace Go.Proofs.Ytaloeaihnkkfeaa
open Go.RowKit

theorem ahead_is (l c m d : Int) (r : Bool) (hr : aheadB l c m d = r) (w : World) :
    Calls Try.prog 22 #[.agg #[.int .u8 l, .int .u32 c], .agg #[.int .u8 m, .int .u32 d]] w fun e w' => e = .returned (.bool r) ∧ Below w.heap.size w w' := by
  subst hr; exact ahead_any l c m d w
theorem check_is (l c k : Int) (hk : chk l = k) (w : World) :
    Calls Try.prog 17 #[.agg #[.int .u8 l, .int .u32 c]] w fun e w' => e = .returned (.int .i64 k) ∧ Below w.heap.size w w' := by
  subst hk; exact check_any l c w

theorem ext_at (W : World) : ∃ x : Ext W, W = x.at' := ⟨⟨W, Below.refl _ _⟩, rfl⟩

set_option maxRecDepth 100000 in
set_option maxHeartbeats 1000000 in
theorem names1_walk (w : World) : Calls Try.prog 5 #[] w fun e w' => e = .returned (.bool true) ∧ Below w.heap.size w w' := by
  go_enter Try.func5, Try.ntmps5
  go_wp2_with fail
  (with_reducible refine (of_any _ _ _).mono ?_); rintro e w1 ⟨rfl, b1⟩
  go_wp2_with fail
  (with_reducible refine (of_any _ _ _).mono ?_); rintro e w2 ⟨rfl, b2⟩
  go_wp2_with fail
  (with_reducible refine (join_bad _ _ _ _ _ (by decide)).mono ?_); rintro e w3 ⟨rfl, b3⟩
  go_wp2_with fail
  (with_reducible refine (of_any _ _ _).mono ?_); rintro e w4 ⟨rfl, b4⟩
  go_wp2_with fail
  (with_reducible refine (of_any _ _ _).mono ?_); rintro e w5 ⟨rfl, b5⟩
  go_wp2_with fail
  (with_reducible refine (meet_bad _ _ _ _ _ (by decide)).mono ?_); rintro e w6 ⟨rfl, b6⟩
  go_wp2_with fail
  have B3 := below_next (below_next b1 b2) b3
  have B6 := below_next (below_next (below_next (B3.alloc B3.size _) b4) b5) b6
  have B := B6.alloc B6.size (.cells #[.int .u8 0, .int .u32 0] 24)
  generalize hW : w6.alloc (.cells #[.int .u8 0, .int .u32 0] 24) = W at B ⊢
  clear hW B6 B3 b1 b2 b3 b4 b5 b6
  obtain ⟨x, hx⟩ := ext_at W
  rw [hx]; clear hx
  go_wp2_with (first | (go_at_call 14; (with_reducible refine (Calls.ext (alive1_any _)).mono ?_); rintro e _ ⟨rfl, y, rfl⟩) | (go_at_call 21; (with_reducible refine (Calls.ext (of_any _ _ _)).mono ?_); rintro e _ ⟨rfl, y, rfl⟩) | (go_at_call 17; (with_reducible refine (Calls.ext (check_is _ _ 8 (by decide +kernel) _)).mono ?_); rintro e _ ⟨rfl, y, rfl⟩) | (go_at_call 22; (with_reducible refine (Calls.ext (ahead_is _ _ _ _ true (by decide +kernel) _)).mono ?_); rintro e _ ⟨rfl, y, rfl⟩) | (go_at_call 22; (with_reducible refine (Calls.ext (ahead_is _ _ _ _ false (by decide +kernel) _)).mono ?_); rintro e _ ⟨rfl, y, rfl⟩))
  go_ret
  exact ⟨rfl, below_next B (Ext.below _)⟩

end Go.Proofs.Ytaloeaihnkkfeaa
