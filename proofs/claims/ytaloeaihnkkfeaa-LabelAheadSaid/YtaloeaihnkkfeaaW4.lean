import Derived.Test.YtaloeaihnkkfeaaB1
namespace Go.Proofs.Ytaloeaihnkkfeaa
open Go.RowKit

set_option maxRecDepth 100000 in
set_option maxHeartbeats 4000000 in
theorem ahead_walk (l c m d k e : Int) (w : World) (x y r s t E : Bool)
    (hcase : (x = true ∧ y = false ∧ E = false ∧ r = false ∧ t = false) ∨ (x = true ∧ y = false ∧ E = false ∧ r = false ∧ t = true) ∨ (x = true ∧ y = false ∧ E = false ∧ r = true ∧ s = true ∧ t = false) ∨ (x = true ∧ y = false ∧ E = false ∧ r = true ∧ s = true ∧ t = true) ∨ (x = false ∧ y = true ∧ E = false ∧ t = false) ∨ (x = false ∧ y = false ∧ E = true))
    (hx : aheadB l c m d = x) (hy : aheadB m d l c = y) (hr : aheadB m d k e = r) (hs : aheadB l c k e = s) (ht : leqB l c m d = t)
    (e1 : ∀ w, (binOp .neq 24 (.agg #[.int .u8 l, .int .u32 c]) (.agg #[.int .u8 m, .int .u32 d])).run Try.prog w = .ok (.bool (!E)) w)
    (e2 : ∀ w, (binOp .eql 24 (.agg #[.int .u8 l, .int .u32 c]) (.agg #[.int .u8 m, .int .u32 d])).run Try.prog w = .ok (.bool E) w) :
    Calls Try.prog 6 #[.agg #[.int .u8 l, .int .u32 c], .agg #[.int .u8 m, .int .u32 d], .agg #[.int .u8 k, .int .u32 e]] w fun e w' => e = .returned (.bool true) ∧ Below w.heap.size w w' := by
  go_enter Try.func6, Try.ntmps6
  go_wp2_with fail
  obtain ⟨B, TA, TB, TC⟩ := box3 w l c m d k e _ rfl
  generalize (World.alloc (World.alloc (World.alloc w _) _) _) = W at B TA TB TC ⊢
  obtain ⟨x0, hx'⟩ := ext_at W
  rw [hx']; clear hx'
  (with_reducible refine (Calls.ext (alive1_any _)).mono ?_); rintro _ _ ⟨rfl, y0, rfl⟩
  obtain ⟨a0, a1, a2⟩ := TA
  obtain ⟨b0, b1, b2⟩ := TB
  obtain ⟨c0, c1, c2⟩ := TC
  have hne := ext_ne W
  go_wp2_with fail
  rcases hcase with ⟨rfl, rfl, rfl, rfl, rfl⟩ | ⟨rfl, rfl, rfl, rfl, rfl⟩ | ⟨rfl, rfl, rfl, rfl, rfl, rfl⟩ | ⟨rfl, rfl, rfl, rfl, rfl, rfl⟩ | ⟨rfl, rfl, rfl, rfl⟩ | ⟨rfl, rfl, rfl⟩
  all_goals
    refine wp_region_extW (by kernel_rfl) (by kernel_rfl) ?_
    repeat (go_big_quiet_step (first | (go_at_call 22; with_reducible exact Calls.ext (ahead_is _ _ _ _ _ hx _)) | (go_at_call 22; with_reducible exact Calls.ext (ahead_is _ _ _ _ _ hy _))))
    refine wpQuiet_nil ?_
    rintro _ ⟨xx, rfl⟩
    go_wp2_with (first | (go_at_call 22; (with_reducible refine (Calls.ext (ahead_is _ _ _ _ _ hr _)).mono ?_); rintro _ _ ⟨rfl, _, rfl⟩) | (go_at_call 22; (with_reducible refine (Calls.ext (ahead_is _ _ _ _ _ hs _)).mono ?_); rintro _ _ ⟨rfl, _, rfl⟩) | (go_at_call 18; (with_reducible refine (Calls.ext (leq_is _ _ _ _ _ ht _)).mono ?_); rintro _ _ ⟨rfl, _, rfl⟩))
    go_ret
    exact ⟨rfl, ext_below B _⟩

end Go.Proofs.Ytaloeaihnkkfeaa
