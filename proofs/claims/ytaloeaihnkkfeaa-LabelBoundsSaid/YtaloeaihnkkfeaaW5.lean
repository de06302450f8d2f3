import Derived.Test.YtaloeaihnkkfeaaB1
import Derived.Deep.Cut
namespace Go.Proofs.Ytaloeaihnkkfeaa
open Go.RowKit

set_option maxRecDepth 100000 in
set_option maxHeartbeats 4000000 in
theorem bounds_bad (l c m d k e k1 k2 : Int) (w : World) (hcase : k1 = 8 ∨ (k1 = 0 ∧ k2 = 8))
    (hj : Hid (JoinIs 15 l c m d 0 0 8)) (hmt : Hid (JoinIs 16 l c m d 0 0 8)) (hk1 : chk l = k1) (hk2 : chk m = k2) :
    Calls Try.prog 3 #[.agg #[.int .u8 l, .int .u32 c], .agg #[.int .u8 m, .int .u32 d], .agg #[.int .u8 k, .int .u32 e]] w fun e w' => e = .returned (.bool true) ∧ Below w.heap.size w w' := by
  go_enter Try.func3, Try.ntmps3
  go_wp2_with fail
  obtain ⟨B, TA, TB, TC⟩ := box3 w l c m d k e _ rfl
  generalize (World.alloc (World.alloc (World.alloc w _) _) _) = W at B TA TB TC ⊢
  obtain ⟨x, hx'⟩ := ext_at W
  rw [hx']; clear hx'
  (with_reducible refine (Calls.ext (alive1_any _)).mono ?_); rintro _ _ ⟨rfl, y, rfl⟩
  obtain ⟨a0, a1, a2⟩ := id TA
  obtain ⟨b0, b1, b2⟩ := id TB
  go_wp2_with fail
  (with_reducible refine (Calls.ext (hj.out _)).mono ?_); rintro _ _ ⟨rfl, z, rfl⟩
  go_wp2_with fail
  have B1 := below_alloc (ext_below B z) (.cells #[.int .u8 0, .int .u32 0] 24)
  have U1 := below_alloc z.below (.cells #[.int .u8 0, .int .u32 0] 24)
  have TX := Two.new z.at' (.int .u8 0) (.int .u32 0) 24
  replace TA := TA.up U1
  replace TB := TB.up U1
  replace TC := TC.up U1
  generalize hP : z.at'.heap.size = P at TX ⊢
  generalize (z.at'.alloc (.cells #[.int .u8 0, .int .u32 0] 24)) = W1 at B1 U1 TX TA TB TC ⊢
  clear a0 a1 a2 b0 b1 b2 hP U1 B
  obtain ⟨x, hx'⟩ := ext_at W1
  rw [hx']; clear hx'
  (with_reducible refine (Calls.ext (hmt.out _)).mono ?_); rintro _ _ ⟨rfl, z, rfl⟩
  go_upto_region 4 with (fail)
  have B2 := below_alloc (ext_below B1 z) (.cells #[.int .u8 0, .int .u32 0] 24)
  have U1 := below_alloc z.below (.cells #[.int .u8 0, .int .u32 0] 24)
  have TY := Two.new z.at' (.int .u8 0) (.int .u32 0) 24
  replace TA := TA.up U1
  replace TB := TB.up U1
  replace TX := TX.up U1
  generalize hP : z.at'.heap.size = P2 at TY ⊢
  generalize (z.at'.alloc (.cells #[.int .u8 0, .int .u32 0] 24)) = W2 at B2 U1 TX TY TA TB ⊢
  clear hP U1 B1 TC
  obtain ⟨x, hx'⟩ := ext_at W2
  rw [hx']; clear hx'
  obtain ⟨a0, a1, a2⟩ := TA
  obtain ⟨b0, b1, b2⟩ := TB
  obtain ⟨x0, x1', x2'⟩ := TX
  obtain ⟨y0, y1', y2'⟩ := TY
  rcases hcase with rfl | ⟨rfl, rfl⟩
  all_goals
    go_wp2_with (first | (go_at_call 17; (with_reducible refine (Calls.ext (check_is _ _ _ hk1 _)).mono ?_); rintro _ _ ⟨rfl, _, rfl⟩) | (go_at_call 17; (with_reducible refine (Calls.ext (check_is _ _ _ hk2 _)).mono ?_); rintro _ _ ⟨rfl, _, rfl⟩))
    go_ret
    exact ⟨rfl, ext_below B2 _⟩

end Go.Proofs.Ytaloeaihnkkfeaa
