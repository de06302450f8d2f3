import Derived.Test.YtaloeaihnkkfeaaR5
import Derived.Deep.Cut
namespace Go.Proofs.Ytaloeaihnkkfeaa
open Go.RowKit

theorem rleq_is (l c m d : Int) (r : Bool) (bc : U32 c) (bd : U32 d) (hr : leqB l c m d = r) (w : World) :
    Calls Try.prog 27 #[.agg #[.int .u8 l, .int .u32 c], .agg #[.int .u8 m, .int .u32 d]] w fun e w' => e = .returned (.bool r) ∧ Below w.heap.size w w' := by
  subst hr; exact rleq_any l c m d w bc bd
theorem rahead_is (l c m d : Int) (r : Bool) (bl : 0 ≤ l ∧ l ≤ 255) (bc : U32 c) (bm : 0 ≤ m ∧ m ≤ 255) (bd : U32 d) (hr : aheadB l c m d = r) (w : World) :
    Calls Try.prog 28 #[.agg #[.int .u8 l, .int .u32 c], .agg #[.int .u8 m, .int .u32 d]] w fun e w' => e = .returned (.bool r) ∧ Below w.heap.size w w' := by
  subst hr; exact rahead_any l c m d w bl bc bm bd
theorem rcheck_is (l c k : Int) (hk : chk l = k) (w : World) :
    Calls Try.prog 26 #[.agg #[.int .u8 l, .int .u32 c]] w fun e w' => e = .returned (.int .i64 k) ∧ Below w.heap.size w w' := by
  subst hk; exact rcheck_any l c w

set_option maxRecDepth 100000 in
set_option maxHeartbeats 4000000 in
theorem tells_walk (l c m d x1 x2 y1 y2 k kc : Int) (w : World) (t u : Bool) (bl : 0 ≤ l ∧ l ≤ 255) (bc : U32 c) (bm : 0 ≤ m ∧ m ≤ 255) (bd : U32 d)
    (j1 : Hid (JoinIs 15 l c m d x1 x2 k)) (j2 : Hid (JoinIs 23 l c m d x1 x2 k)) (j3 : Hid (JoinIs 16 l c m d y1 y2 k)) (j4 : Hid (JoinIs 24 l c m d y1 y2 k))
    (hck : chk l = kc) (ht : leqB l c m d = t) (hu : aheadB l c m d = u)
    (e1 : ∀ w, (binOp .eql 24 (.agg #[.int .u8 x1, .int .u32 x2]) (.agg #[.int .u8 x1, .int .u32 x2])).run Try.prog w = .ok (.bool true) w)
    (e2 : ∀ w, (binOp .eql 24 (.agg #[.int .u8 y1, .int .u32 y2]) (.agg #[.int .u8 y1, .int .u32 y2])).run Try.prog w = .ok (.bool true) w) :
    Calls Try.prog 7 #[.agg #[.int .u8 l, .int .u32 c], .agg #[.int .u8 m, .int .u32 d]] w fun e w' => e = .returned (.bool true) ∧ Below w.heap.size w w' := by
  replace bl : Hid (0 ≤ l ∧ l ≤ 255) := bl
  replace bc : Hid (U32 c) := bc
  replace bm : Hid (0 ≤ m ∧ m ≤ 255) := bm
  replace bd : Hid (U32 d) := bd
  go_enter Try.func7, Try.ntmps7
  go_upto_region 1 with (fail)
  obtain ⟨B, TA, TB⟩ := box2 w l c m d _ rfl
  generalize (World.alloc (World.alloc w _) _) = W at B TA TB ⊢
  obtain ⟨x, hx'⟩ := ext_at W
  rw [hx']; clear hx'
  obtain ⟨a0, a1, a2⟩ := id TA
  obtain ⟨b0, b1, b2⟩ := id TB
  go_wp2_with fail
  (with_reducible refine (Calls.ext (j1.out _)).mono ?_); rintro _ _ ⟨rfl, z, rfl⟩
  go_upto_region 2 with (fail)
  clear a0 a1 a2 b0 b1 b2
  have U := below_alloc z.below (.cells #[.int .u8 x1, .int .u32 x2] 24)
  replace B := below_alloc (ext_below B z) (.cells #[.int .u8 x1, .int .u32 x2] 24)
  have T0 := Two.new z.at' (.int .u8 x1) (.int .u32 x2) 24
  replace TA := TA.up U
  replace TB := TB.up U
  generalize hP : z.at'.heap.size = P0 at T0 ⊢
  generalize (z.at'.alloc (.cells #[.int .u8 x1, .int .u32 x2] 24)) = W0 at B U TA TB T0 ⊢
  clear hP U
  obtain ⟨x, hx'⟩ := ext_at W0
  rw [hx']; clear hx'
  obtain ⟨a0, a1, a2⟩ := id TA
  obtain ⟨b0, b1, b2⟩ := id TB
  go_wp2_with fail
  (with_reducible refine (Calls.ext (j2.out _)).mono ?_); rintro _ _ ⟨rfl, z, rfl⟩
  go_upto_region 3 with (fail)
  clear a0 a1 a2 b0 b1 b2
  have U := below_alloc z.below (.cells #[.int .u8 x1, .int .u32 x2] 24)
  replace B := below_alloc (ext_below B z) (.cells #[.int .u8 x1, .int .u32 x2] 24)
  have T1 := Two.new z.at' (.int .u8 x1) (.int .u32 x2) 24
  replace TA := TA.up U
  replace TB := TB.up U
  replace T0 := T0.up U
  generalize hP : z.at'.heap.size = P1 at T1 ⊢
  generalize (z.at'.alloc (.cells #[.int .u8 x1, .int .u32 x2] 24)) = W1 at B U TA TB T0 T1 ⊢
  clear hP U
  obtain ⟨x, hx'⟩ := ext_at W1
  rw [hx']; clear hx'
  obtain ⟨a0, a1, a2⟩ := id TA
  obtain ⟨b0, b1, b2⟩ := id TB
  go_wp2_with fail
  (with_reducible refine (Calls.ext (j3.out _)).mono ?_); rintro _ _ ⟨rfl, z, rfl⟩
  go_upto_region 4 with (fail)
  clear a0 a1 a2 b0 b1 b2
  have U := below_alloc z.below (.cells #[.int .u8 y1, .int .u32 y2] 24)
  replace B := below_alloc (ext_below B z) (.cells #[.int .u8 y1, .int .u32 y2] 24)
  have T2 := Two.new z.at' (.int .u8 y1) (.int .u32 y2) 24
  replace TA := TA.up U
  replace TB := TB.up U
  replace T0 := T0.up U
  replace T1 := T1.up U
  generalize hP : z.at'.heap.size = P2 at T2 ⊢
  generalize (z.at'.alloc (.cells #[.int .u8 y1, .int .u32 y2] 24)) = W2 at B U TA TB T0 T1 T2 ⊢
  clear hP U
  obtain ⟨x, hx'⟩ := ext_at W2
  rw [hx']; clear hx'
  obtain ⟨a0, a1, a2⟩ := id TA
  obtain ⟨b0, b1, b2⟩ := id TB
  go_wp2_with fail
  (with_reducible refine (Calls.ext (j4.out _)).mono ?_); rintro _ _ ⟨rfl, z, rfl⟩
  go_upto_region 5 with (fail)
  clear a0 a1 a2 b0 b1 b2
  have U := below_alloc z.below (.cells #[.int .u8 y1, .int .u32 y2] 24)
  replace B := below_alloc (ext_below B z) (.cells #[.int .u8 y1, .int .u32 y2] 24)
  have T3 := Two.new z.at' (.int .u8 y1) (.int .u32 y2) 24
  replace TA := TA.up U
  replace TB := TB.up U
  replace T0 := T0.up U
  replace T1 := T1.up U
  replace T2 := T2.up U
  generalize hP : z.at'.heap.size = P3 at T3 ⊢
  generalize (z.at'.alloc (.cells #[.int .u8 y1, .int .u32 y2] 24)) = W3 at B U TA TB T0 T1 T2 T3 ⊢
  clear hP U
  obtain ⟨x, hx'⟩ := ext_at W3
  rw [hx']; clear hx'
  obtain ⟨ta0, ta1, ta2⟩ := TA
  obtain ⟨tb0, tb1, tb2⟩ := TB
  obtain ⟨t00, t01, t02⟩ := T0
  obtain ⟨t10, t11, t12⟩ := T1
  obtain ⟨t20, t21, t22⟩ := T2
  obtain ⟨t30, t31, t32⟩ := T3
  have hne := ext_ne W3
  go_wp2_with (first | (go_at_call 20; (with_reducible refine (Calls.ext (greatest_any _)).mono ?_); rintro _ _ ⟨rfl, _, rfl⟩) | (go_at_call 25; (with_reducible refine (Calls.ext (rgreatest_any _)).mono ?_); rintro _ _ ⟨rfl, _, rfl⟩) | (go_at_call 19; (with_reducible refine (Calls.ext (least_any _)).mono ?_); rintro _ _ ⟨rfl, _, rfl⟩))
  refine wp_region_extW (by kernel_rfl) (by kernel_rfl) ?_
  repeat (go_big_quiet_step (first | (go_at_call 17; with_reducible exact Calls.ext (check_is _ _ _ hck _)) | (go_at_call 26; with_reducible exact Calls.ext (rcheck_is _ _ _ hck _)) | (go_at_call 18; with_reducible exact Calls.ext (leq_is _ _ _ _ _ ht _)) | (go_at_call 27; with_reducible exact Calls.ext (rleq_is _ _ _ _ _ bc.out bd.out ht _)) | (go_at_call 22; with_reducible exact Calls.ext (ahead_is _ _ _ _ _ hu _)) | (go_at_call 28; with_reducible exact Calls.ext (rahead_is _ _ _ _ _ bl.out bc.out bm.out bd.out hu _))))
  refine wpQuiet_nil ?_
  rintro _ ⟨xx, rfl⟩
  go_wp2
  go_ret
  exact ⟨rfl, ext_below B _⟩

theorem tells_all (l c m d : Int) (w : World) (bl : 0 ≤ l ∧ l ≤ 255) (bc : U32 c) (bm : 0 ≤ m ∧ m ≤ 255) (bd : U32 d) :
    Calls Try.prog 7 #[.agg #[.int .u8 l, .int .u32 c], .agg #[.int .u8 m, .int .u32 d]] w fun e w' => e = .returned (.bool true) ∧ Below w.heap.size w w' := by
  have E : ∀ a b, eqL a b a b = true := fun a b => by simp [eqL]
  by_cases h : l ≤ 15 ∧ m ≤ 15
  · exact tells_walk l c m d _ _ _ _ _ _ w _ _ bl bc bm bd (fun w => join_ok l c m d w h.1 h.2) (fun w => rjoin_ok l c m d w h.1 h.2 bc bd) (fun w => meet_ok l c m d w h.1 h.2) (fun w => rmeet_ok l c m d w h.1 h.2 bc bd) rfl rfl rfl (run_eq_is _ _ _ _ _ (E _ _)) (run_eq_is _ _ _ _ _ (E _ _))
  · exact tells_walk l c m d _ _ _ _ _ _ w _ _ bl bc bm bd (fun w => join_bad l c m d w h) (fun w => rjoin_bad l c m d w h) (fun w => meet_bad l c m d w h) (fun w => rmeet_bad l c m d w h) rfl rfl rfl (run_eq_is _ _ _ _ _ (E _ _)) (run_eq_is _ _ _ _ _ (E _ _))

end Go.Proofs.Ytaloeaihnkkfeaa
