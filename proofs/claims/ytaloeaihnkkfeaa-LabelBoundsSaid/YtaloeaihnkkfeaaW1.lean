import Derived.Test.YtaloeaihnkkfeaaB1
namespace Go.Proofs.Ytaloeaihnkkfeaa
open Go.RowKit

set_option maxRecDepth 100000 in
set_option maxHeartbeats 4000000 in
theorem bounds_ok (l c m d k e x1 x2 y1 y2 : Int) (w : World) (p q r s t u v : Bool)
    (hcase1 : (p = false ∧ u = false) ∨ (p = true ∧ q = false ∧ u = false) ∨ (p = true ∧ q = true ∧ u = true))
    (hcase2 : (r = false ∧ v = false) ∨ (r = true ∧ s = false ∧ v = false) ∨ (r = true ∧ s = true ∧ v = true))
    (hj : Hid (JoinIs 15 l c m d x1 x2 0)) (hmt : Hid (JoinIs 16 l c m d y1 y2 0))
    (hp : leqB l c k e = p) (hq : leqB m d k e = q) (hx : leqB x1 x2 k e = u)
    (hr : leqB k e l c = r) (hs : leqB k e m d = s) (hy : leqB k e y1 y2 = v)
    (ht : leqB l c m d = t) (h1 : leqB l c x1 x2 = true) (h2 : leqB m d x1 x2 = true) (h3 : leqB y1 y2 l c = true) (h4 : leqB y1 y2 m d = true)
    (e1 : ∀ w, (binOp .eql 24 (.agg #[.int .u8 x1, .int .u32 x2]) (.agg #[.int .u8 m, .int .u32 d])).run Try.prog w = .ok (.bool t) w)
    (e2 : ∀ w, (binOp .eql 24 (.agg #[.int .u8 y1, .int .u32 y2]) (.agg #[.int .u8 l, .int .u32 c])).run Try.prog w = .ok (.bool t) w) :
    Calls Try.prog 3 #[.agg #[.int .u8 l, .int .u32 c], .agg #[.int .u8 m, .int .u32 d], .agg #[.int .u8 k, .int .u32 e]] w fun e w' => e = .returned (.bool true) ∧ Below w.heap.size w w' := by
  go_enter Try.func3, Try.ntmps3
  go_wp2_with fail
  obtain ⟨B, TA, TB, TC⟩ := box3 w l c m d k e _ rfl
  generalize (World.alloc (World.alloc (World.alloc w _) _) _) = W at B TA TB TC ⊢
  obtain ⟨x, hx'⟩ := ext_at W
  rw [hx']; clear hx'
  (with_reducible refine (Calls.ext (alive1_any _)).mono ?_); rintro _ _ ⟨rfl, y, rfl⟩
  obtain ⟨a0, a1, a2⟩ := id TA
  obtain ⟨b0, b1, b2⟩ := id TB
  go_wp2_with fail
  (with_reducible refine (Calls.ext (hj.out _)).mono ?_); rintro _ _ ⟨rfl, z, rfl⟩
  go_wp2_with fail
  have B1 := below_alloc (ext_below B z) (.cells #[.int .u8 x1, .int .u32 x2] 24)
  have U1 := below_alloc z.below (.cells #[.int .u8 x1, .int .u32 x2] 24)
  have TX := Two.new z.at' (.int .u8 x1) (.int .u32 x2) 24
  replace TA := TA.up U1
  replace TB := TB.up U1
  replace TC := TC.up U1
  generalize hP : z.at'.heap.size = P at TX ⊢
  generalize (z.at'.alloc (.cells #[.int .u8 x1, .int .u32 x2] 24)) = W1 at B1 U1 TX TA TB TC ⊢
  clear a0 a1 a2 b0 b1 b2 hP U1 B
  obtain ⟨x, hx'⟩ := ext_at W1
  rw [hx']; clear hx'
  (with_reducible refine (Calls.ext (hmt.out _)).mono ?_); rintro _ _ ⟨rfl, z, rfl⟩
  go_wp2_with fail
  have B2 := below_alloc (ext_below B1 z) (.cells #[.int .u8 y1, .int .u32 y2] 24)
  have U1 := below_alloc z.below (.cells #[.int .u8 y1, .int .u32 y2] 24)
  have TY := Two.new z.at' (.int .u8 y1) (.int .u32 y2) 24
  replace TA := TA.up U1
  replace TB := TB.up U1
  replace TC := TC.up U1
  replace TX := TX.up U1
  generalize hP : z.at'.heap.size = P2 at TY ⊢
  generalize (z.at'.alloc (.cells #[.int .u8 y1, .int .u32 y2] 24)) = W2 at B2 U1 TX TY TA TB TC ⊢
  clear hP U1 B1
  obtain ⟨x, hx'⟩ := ext_at W2
  rw [hx']; clear hx'
  obtain ⟨a0, a1, a2⟩ := TA
  obtain ⟨b0, b1, b2⟩ := TB
  obtain ⟨c0, c1, c2⟩ := TC
  obtain ⟨x0, x1', x2'⟩ := TX
  obtain ⟨y0, y1', y2'⟩ := TY
  have hne := ext_ne W2
  rcases hcase1 with ⟨rfl, rfl⟩ | ⟨rfl, rfl, rfl⟩ | ⟨rfl, rfl, rfl⟩ <;> rcases hcase2 with ⟨rfl, rfl⟩ | ⟨rfl, rfl, rfl⟩ | ⟨rfl, rfl, rfl⟩
  all_goals
    refine wp_region_extW (by kernel_rfl) (by kernel_rfl) ?_
    repeat (go_big_quiet_step (first | (go_at_call 18; with_reducible exact Calls.ext (leq_is _ _ _ _ _ hp _)) | (go_at_call 18; with_reducible exact Calls.ext (leq_is _ _ _ _ _ hq _)) | (go_at_call 18; with_reducible exact Calls.ext (leq_is _ _ _ _ _ hx _)) | (go_at_call 18; with_reducible exact Calls.ext (leq_is _ _ _ _ _ hr _)) | (go_at_call 18; with_reducible exact Calls.ext (leq_is _ _ _ _ _ hs _)) | (go_at_call 18; with_reducible exact Calls.ext (leq_is _ _ _ _ _ hy _))))
    refine wpQuiet_nil ?_
    rintro _ ⟨xx, rfl⟩
    go_wp2_with fail
    cases t
    all_goals
      refine wp_region_extW (by kernel_rfl) (by kernel_rfl) ?_
      repeat (go_big_quiet_step (first | (go_at_call 18; with_reducible exact Calls.ext (leq_is _ _ _ _ _ h1 _)) | (go_at_call 18; with_reducible exact Calls.ext (leq_is _ _ _ _ _ h2 _)) | (go_at_call 18; with_reducible exact Calls.ext (leq_is _ _ _ _ _ h3 _)) | (go_at_call 18; with_reducible exact Calls.ext (leq_is _ _ _ _ _ h4 _)) | (go_at_call 18; with_reducible exact Calls.ext (leq_is _ _ _ _ _ ht _))))
      refine wpQuiet_nil ?_
      rintro _ ⟨xx, rfl⟩
      go_wp2
      go_ret
      exact ⟨rfl, ext_below B2 _⟩

end Go.Proofs.Ytaloeaihnkkfeaa
