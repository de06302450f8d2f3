import Derived.Test.YtaloeaihnkkfeaaS5
namespace Go.Proofs.Ytaloeaihnkkfeaa
open Go.RowKit

theorem run_eqS_self (a b c d e : Int) (w : World) : (binOp .eql 44 (.agg #[.int .u8 a, .int .u32 b, .int .u8 c, .int .i64 d, .int .i64 e]) (.agg #[.int .u8 a, .int .u32 b, .int .u8 c, .int .i64 d, .int .i64 e])).run Try.prog w = .ok (.bool true) w := by simp [go_sem]
abbrev HasIs (f : Nat) (l3 c3 n3 k3 m3 l c n k iv : Int) (ib : Bool) : Prop := ∀ w : World, Calls Try.prog f #[.agg #[.int .u8 l3, .int .u32 c3, .int .u8 n3, .int .i64 k3, .int .i64 m3], .agg #[.int .u8 l, .int .u32 c, .int .u8 n, .int .i64 k]] w fun e w' => e = .returned (.tuple #[.int .i64 iv, .bool ib]) ∧ Below w.heap.size w w'
abbrev AtIs (f : Nat) (l3 c3 n3 k3 m3 i x0 x1 x2 x3 ea : Int) : Prop := ∀ w : World, Calls Try.prog f #[.agg #[.int .u8 l3, .int .u32 c3, .int .u8 n3, .int .i64 k3, .int .i64 m3], .int .i64 i] w fun e w' => e = .returned (.tuple #[.agg #[.int .u8 x0, .int .u32 x1, .int .u8 x2, .int .i64 x3], .int .i64 ea]) ∧ Below w.heap.size w w'
abbrev CutIs (f : Nat) (l3 c3 n3 k3 m3 i p0 p1 p2 p3 p4 q0 q1 q2 q3 q4 ec : Int) : Prop := ∀ w : World, Calls Try.prog f #[.agg #[.int .u8 l3, .int .u32 c3, .int .u8 n3, .int .i64 k3, .int .i64 m3], .int .i64 i] w fun e w' => e = .returned (.tuple #[.agg #[.int .u8 p0, .int .u32 p1, .int .u8 p2, .int .i64 p3, .int .i64 p4], .agg #[.int .u8 q0, .int .u32 q1, .int .u8 q2, .int .i64 q3, .int .i64 q4], .int .i64 ec]) ∧ Below w.heap.size w w'

set_option maxRecDepth 100000 in
set_option maxHeartbeats 4000000 in
theorem idsTell_walk (l c n k m d q j l3 c3 n3 k3 m3 i x0 x1 x2 x3 p0 p1 p2 p3 p4 q0 q1 q2 q3 q4 iv ea ec : Int) (ib r1 r2 r3 r4 : Bool) (w : World)
    (bl : Hid (0 ≤ l ∧ l ≤ 255)) (bc : Hid (U32 c)) (bm : Hid (0 ≤ m ∧ m ≤ 255)) (bd : Hid (U32 d))
    (h1 : Hid (HasIs 31 l3 c3 n3 k3 m3 l c n k iv ib)) (h2 : Hid (HasIs 32 l3 c3 n3 k3 m3 l c n k iv ib))
    (h3 : Hid (AtIs 33 l3 c3 n3 k3 m3 i x0 x1 x2 x3 ea)) (h4 : Hid (AtIs 34 l3 c3 n3 k3 m3 i x0 x1 x2 x3 ea))
    (h5 : Hid (CutIs 35 l3 c3 n3 k3 m3 i p0 p1 p2 p3 p4 q0 q1 q2 q3 q4 ec)) (h6 : Hid (CutIs 36 l3 c3 n3 k3 m3 i p0 p1 p2 p3 p4 q0 q1 q2 q3 q4 ec))
    (g1 : mayI l n k = r1) (g2 : mayH m q = r2) (g3 : mayS l3 n3 k3 m3 = r3) (g4 : lessB l c n k m d q j = r4)
    (e1 : ∀ w, (binOp .eql 40 (.agg #[.int .u8 x0, .int .u32 x1, .int .u8 x2, .int .i64 x3]) (.agg #[.int .u8 x0, .int .u32 x1, .int .u8 x2, .int .i64 x3])).run Try.prog w = .ok (.bool true) w)
    (e2 : ∀ w, (binOp .eql 44 (.agg #[.int .u8 p0, .int .u32 p1, .int .u8 p2, .int .i64 p3, .int .i64 p4]) (.agg #[.int .u8 p0, .int .u32 p1, .int .u8 p2, .int .i64 p3, .int .i64 p4])).run Try.prog w = .ok (.bool true) w)
    (e3 : ∀ w, (binOp .eql 44 (.agg #[.int .u8 q0, .int .u32 q1, .int .u8 q2, .int .i64 q3, .int .i64 q4]) (.agg #[.int .u8 q0, .int .u32 q1, .int .u8 q2, .int .i64 q3, .int .i64 q4])).run Try.prog w = .ok (.bool true) w) :
    Calls Try.prog 9 #[.agg #[.int .u8 l, .int .u32 c, .int .u8 n, .int .i64 k], .agg #[.int .u8 m, .int .u32 d, .int .u8 q, .int .i64 j], .agg #[.int .u8 l3, .int .u32 c3, .int .u8 n3, .int .i64 k3, .int .i64 m3], .int .i64 i] w fun e w' => e = .returned (.bool true) ∧ Below w.heap.size w w' := by
  go_enter Try.func9, Try.ntmps9
  go_upto_region 1 with (fail)
  obtain ⟨B, HA, HB, HS⟩ := boxI3 w #[.int .u8 l, .int .u32 c, .int .u8 n, .int .i64 k] #[.int .u8 m, .int .u32 d, .int .u8 q, .int .i64 j] #[.int .u8 l3, .int .u32 c3, .int .u8 n3, .int .i64 k3, .int .i64 m3] 40 40 44 _ rfl
  generalize (World.alloc (World.alloc (World.alloc w _) _) _) = W at B HA HB HS ⊢
  obtain ⟨x, hx'⟩ := ext_at W
  rw [hx']; clear hx'
  have a0' := HA.at 0 rfl
  have a1' := HA.at 1 rfl
  have a2' := HA.at 2 rfl
  have a3' := HA.at 3 rfl
  have s0' := HS.at 0 rfl
  have s1' := HS.at 1 rfl
  have s2' := HS.at 2 rfl
  have s3' := HS.at 3 rfl
  have s4' := HS.at 4 rfl
  go_wp2_with fail
  (with_reducible refine (Calls.ext (h1.out _)).mono ?_); rintro _ _ ⟨rfl, z1, rfl⟩
  go_wp2_with fail
  (with_reducible refine (Calls.ext (h2.out _)).mono ?_); rintro _ _ ⟨rfl, z2, rfl⟩
  go_wp2_with fail
  (with_reducible refine (Calls.ext (h3.out _)).mono ?_); rintro _ _ ⟨rfl, z, rfl⟩
  go_upto_region 4 with (fail)
  clear a0' a1' a2' a3' s0' s1' s2' s3' s4'
  have U := below_alloc z.below (.cells #[.int .u8 x0, .int .u32 x1, .int .u8 x2, .int .i64 x3] 40)
  have HX := Blk.new z.at' #[.int .u8 x0, .int .u32 x1, .int .u8 x2, .int .i64 x3] 40
  replace B := below_next B U
  replace HA := HA.up U
  replace HB := HB.up U
  replace HS := HS.up U
  generalize hP : z.at'.heap.size = Q1 at HX ⊢
  generalize (World.alloc z.at' _) = W1 at B U HA HB HS HX ⊢
  clear hP U
  obtain ⟨x, hx'⟩ := ext_at W1
  rw [hx']; clear hx'
  have a0' := HA.at 0 rfl
  have a1' := HA.at 1 rfl
  have a2' := HA.at 2 rfl
  have a3' := HA.at 3 rfl
  have s0' := HS.at 0 rfl
  have s1' := HS.at 1 rfl
  have s2' := HS.at 2 rfl
  have s3' := HS.at 3 rfl
  have s4' := HS.at 4 rfl
  go_wp2_with fail
  (with_reducible refine (Calls.ext (h4.out _)).mono ?_); rintro _ _ ⟨rfl, z, rfl⟩
  go_upto_region 5 with (fail)
  clear a0' a1' a2' a3' s0' s1' s2' s3' s4'
  have U := below_alloc z.below (.cells #[.int .u8 x0, .int .u32 x1, .int .u8 x2, .int .i64 x3] 40)
  have HY := Blk.new z.at' #[.int .u8 x0, .int .u32 x1, .int .u8 x2, .int .i64 x3] 40
  replace B := below_next B U
  replace HA := HA.up U
  replace HB := HB.up U
  replace HS := HS.up U
  replace HX := HX.up U
  generalize hP : z.at'.heap.size = Q2 at HY ⊢
  generalize (World.alloc z.at' _) = W2 at B U HA HB HS HX HY ⊢
  clear hP U
  obtain ⟨x, hx'⟩ := ext_at W2
  rw [hx']; clear hx'
  have a0' := HA.at 0 rfl
  have a1' := HA.at 1 rfl
  have a2' := HA.at 2 rfl
  have a3' := HA.at 3 rfl
  have s0' := HS.at 0 rfl
  have s1' := HS.at 1 rfl
  have s2' := HS.at 2 rfl
  have s3' := HS.at 3 rfl
  have s4' := HS.at 4 rfl
  go_wp2_with fail
  (with_reducible refine (Calls.ext (h5.out _)).mono ?_); rintro _ _ ⟨rfl, z, rfl⟩
  go_upto_region 6 with (fail)
  clear a0' a1' a2' a3' s0' s1' s2' s3' s4'
  obtain ⟨U, HP1, HQ1⟩ := boxI2 z.at' #[.int .u8 p0, .int .u32 p1, .int .u8 p2, .int .i64 p3, .int .i64 p4] #[.int .u8 q0, .int .u32 q1, .int .u8 q2, .int .i64 q3, .int .i64 q4] 44 44 _ rfl
  replace U := below_next z.below U
  replace B := below_next B U
  replace HA := HA.up U
  replace HB := HB.up U
  replace HS := HS.up U
  replace HX := HX.up U
  replace HY := HY.up U
  generalize hP : z.at'.heap.size = Q3 at HP1 HQ1 ⊢
  generalize (World.alloc (World.alloc z.at' _) _) = W3 at B U HA HB HS HX HY HP1 HQ1 ⊢
  clear hP U
  obtain ⟨x, hx'⟩ := ext_at W3
  rw [hx']; clear hx'
  have a0' := HA.at 0 rfl
  have a1' := HA.at 1 rfl
  have a2' := HA.at 2 rfl
  have a3' := HA.at 3 rfl
  have s0' := HS.at 0 rfl
  have s1' := HS.at 1 rfl
  have s2' := HS.at 2 rfl
  have s3' := HS.at 3 rfl
  have s4' := HS.at 4 rfl
  go_wp2_with fail
  (with_reducible refine (Calls.ext (h6.out _)).mono ?_); rintro _ _ ⟨rfl, z, rfl⟩
  go_upto_region 7 with (fail)
  clear a0' a1' a2' a3' s0' s1' s2' s3' s4'
  obtain ⟨U, HP2, HQ2⟩ := boxI2 z.at' #[.int .u8 p0, .int .u32 p1, .int .u8 p2, .int .i64 p3, .int .i64 p4] #[.int .u8 q0, .int .u32 q1, .int .u8 q2, .int .i64 q3, .int .i64 q4] 44 44 _ rfl
  replace U := below_next z.below U
  replace B := below_next B U
  replace HA := HA.up U
  replace HB := HB.up U
  replace HS := HS.up U
  replace HX := HX.up U
  replace HY := HY.up U
  replace HP1 := HP1.up U
  replace HQ1 := HQ1.up U
  generalize hP : z.at'.heap.size = Q4 at HP2 HQ2 ⊢
  generalize (World.alloc (World.alloc z.at' _) _) = W4 at B U HA HB HS HX HY HP1 HQ1 HP2 HQ2 ⊢
  clear hP U
  obtain ⟨x, hx'⟩ := ext_at W4
  rw [hx']; clear hx'
  have a0' := HA.at 0 rfl
  have a1' := HA.at 1 rfl
  have a2' := HA.at 2 rfl
  have a3' := HA.at 3 rfl
  have s0' := HS.at 0 rfl
  have s1' := HS.at 1 rfl
  have s2' := HS.at 2 rfl
  have s3' := HS.at 3 rfl
  have s4' := HS.at 4 rfl
  have b0' := HB.at 0 rfl
  have b1' := HB.at 1 rfl
  have b2' := HB.at 2 rfl
  have b3' := HB.at 3 rfl
  have x0' := HX.at 0 rfl
  have x1' := HX.at 1 rfl
  have x2' := HX.at 2 rfl
  have x3' := HX.at 3 rfl
  have y0' := HY.at 0 rfl
  have y1' := HY.at 1 rfl
  have y2' := HY.at 2 rfl
  have y3' := HY.at 3 rfl
  have p0' := HP1.at 0 rfl
  have p1' := HP1.at 1 rfl
  have p2' := HP1.at 2 rfl
  have p3' := HP1.at 3 rfl
  have p4' := HP1.at 4 rfl
  have q0' := HQ1.at 0 rfl
  have q1' := HQ1.at 1 rfl
  have q2' := HQ1.at 2 rfl
  have q3' := HQ1.at 3 rfl
  have q4' := HQ1.at 4 rfl
  have u0' := HP2.at 0 rfl
  have u1' := HP2.at 1 rfl
  have u2' := HP2.at 2 rfl
  have u3' := HP2.at 3 rfl
  have u4' := HP2.at 4 rfl
  have v0' := HQ2.at 0 rfl
  have v1' := HQ2.at 1 rfl
  have v2' := HQ2.at 2 rfl
  have v3' := HQ2.at 3 rfl
  have v4' := HQ2.at 4 rfl
  have hne := ext_ne W4
  refine wp_region_extW (by kernel_rfl) (by kernel_rfl) ?_
  repeat (go_big_quiet_step (first | (go_at_call 37; with_reducible exact Calls.ext (checkI_is _ _ _ _ _ g1 _)) | (go_at_call 38; with_reducible exact Calls.ext (rcheckI_is _ _ _ _ _ g1 _)) | (go_at_call 39; with_reducible exact Calls.ext (checkH_is _ _ _ _ g2 _)) | (go_at_call 40; with_reducible exact Calls.ext (rcheckH_is _ _ _ _ g2 _)) | (go_at_call 41; with_reducible exact Calls.ext (checkS_is _ _ _ _ _ _ g3 _)) | (go_at_call 42; with_reducible exact Calls.ext (rcheckS_is _ _ _ _ _ _ g3 _)) | (go_at_call 30; with_reducible exact Calls.ext (less_is _ _ _ _ _ _ _ _ _ g4 _)) | (go_at_call 43; with_reducible exact Calls.ext (rless_is _ _ _ _ _ _ _ _ bl.out bc.out bm.out bd.out _ g4 _))))
  refine wpQuiet_nil ?_
  rintro _ ⟨xx, rfl⟩
  go_wp2_with fail
  go_ret
  exact ⟨rfl, ext_below B _⟩

theorem idsTell_all (l c n k m d q j l3 c3 n3 k3 m3 i : Int) (w : World) (b0 : 0 ≤ l ∧ l ≤ 255) (b1 : 0 ≤ c ∧ c < 4294967296) (_b2 : 0 ≤ n ∧ n ≤ 255) (b3 : I64 k) (b4 : 0 ≤ m ∧ m ≤ 255) (b5 : 0 ≤ d ∧ d < 4294967296) (_b6 : 0 ≤ q ∧ q ≤ 255) (_b7 : I64 j) (_b8 : 0 ≤ l3 ∧ l3 ≤ 255) (_b9 : 0 ≤ c3 ∧ c3 < 4294967296) (_b10 : 0 ≤ n3 ∧ n3 ≤ 255) (_b11 : I64 k3) (_b12 : I64 m3) (_b13 : I64 i) :
    Calls Try.prog 9 #[.agg #[.int .u8 l, .int .u32 c, .int .u8 n, .int .i64 k], .agg #[.int .u8 m, .int .u32 d, .int .u8 q, .int .i64 j], .agg #[.int .u8 l3, .int .u32 c3, .int .u8 n3, .int .i64 k3, .int .i64 m3], .int .i64 i] w fun e w' => e = .returned (.bool true) ∧ Below w.heap.size w w' := by
  obtain ⟨iv, ib, h1, h2⟩ : ∃ iv ib, HasIs 31 l3 c3 n3 k3 m3 l c n k iv ib ∧ HasIs 32 l3 c3 n3 k3 m3 l c n k iv ib := by
    cases h : hasR l3 c3 n3 k3 m3 l c n k
    · exact ⟨0, false, fun w => hasI_no l3 c3 n3 k3 m3 l c n k b3 h w, fun w => rhas_no l3 c3 n3 k3 m3 l c n k h w⟩
    · exact ⟨_, true, fun w => hasI_yes l3 c3 n3 k3 m3 l c n k h w, fun w => rhas_yes l3 c3 n3 k3 m3 l c n k h w⟩
  obtain ⟨x0, x1, x2, x3, ea, h3, h4⟩ : ∃ x0 x1 x2 x3 ea, AtIs 33 l3 c3 n3 k3 m3 i x0 x1 x2 x3 ea ∧ AtIs 34 l3 c3 n3 k3 m3 i x0 x1 x2 x3 ea := by
    by_cases h : atE l3 n3 k3 m3 i = 0
    · exact ⟨_, _, _, _, _, fun w => at_ok l3 c3 n3 k3 m3 i h w, fun w => rat_ok l3 c3 n3 k3 m3 i h w⟩
    · exact ⟨_, _, _, _, _, fun w => at_err l3 c3 n3 k3 m3 i _ rfl h w, fun w => rat_err l3 c3 n3 k3 m3 i _ rfl h w⟩
  obtain ⟨p0, p1, p2, p3, p4, q0, q1, q2, q3, q4, ec, h5, h6⟩ : ∃ p0 p1 p2 p3 p4 q0 q1 q2 q3 q4 ec, CutIs 35 l3 c3 n3 k3 m3 i p0 p1 p2 p3 p4 q0 q1 q2 q3 q4 ec ∧ CutIs 36 l3 c3 n3 k3 m3 i p0 p1 p2 p3 p4 q0 q1 q2 q3 q4 ec := by
    by_cases h : cutE l3 n3 k3 m3 i = 0
    · exact ⟨_, _, _, _, _, _, _, _, _, _, _, fun w => cut_ok l3 c3 n3 k3 m3 i h w, fun w => rcut_ok l3 c3 n3 k3 m3 i h w⟩
    · exact ⟨_, _, _, _, _, _, _, _, _, _, _, fun w => cut_err l3 c3 n3 k3 m3 i _ rfl h w, fun w => rcut_err l3 c3 n3 k3 m3 i _ rfl h w⟩
  exact idsTell_walk l c n k m d q j l3 c3 n3 k3 m3 i x0 x1 x2 x3 p0 p1 p2 p3 p4 q0 q1 q2 q3 q4 iv ea ec ib _ _ _ _ w b0 b1 b4 b5 h1 h2 h3 h4 h5 h6 rfl rfl rfl rfl (run_eqI _ _ _ _ _ _ _ _ _ (by simp [eqI, eqL])) (run_eqS_self _ _ _ _ _) (run_eqS_self _ _ _ _ _)

end Go.Proofs.Ytaloeaihnkkfeaa
