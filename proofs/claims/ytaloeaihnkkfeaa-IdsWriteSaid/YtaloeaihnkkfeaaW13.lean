import Derived.Test.YtaloeaihnkkfeaaI7
namespace Go.Proofs.Ytaloeaihnkkfeaa
open Go.RowKit

set_option maxHeartbeats 400000 in
theorem get_len (a : Option Addr) (len cap : Nat) (w : World) (_h : ((len : Int) == 13) = false) (h' : ((len : Int) != 13) = true) :
    Calls Try.prog 48 #[.slice a len cap] w fun e w' => e = .returned (.tuple #[.agg #[.int .u8 0, .int .u32 0, .int .u8 0, .int .i64 0], .int .i64 8]) ∧ Below w.heap.size w w' := by
  go_enter Try.func48, Try.ntmps48
  go_wp2
  refine bodyPost_ret (v := .tuple #[.agg #[.int .u8 0, .int .u32 0, .int .u8 0, .int .i64 0], .int .i64 8]) (by simp [results, Try.results48, go_sem]) rfl ⟨rfl, ?_⟩
  exact below_alloc (Below.refl _ _) _
theorem get_nil (w : World) : Calls Try.prog 48 #[.slice none 0 0] w fun e w' => e = .returned (.tuple #[.agg #[.int .u8 0, .int .u32 0, .int .u8 0, .int .i64 0], .int .i64 8]) ∧ Below w.heap.size w w' := get_len none 0 0 w (by decide) (by decide)

theorem field40 (a b c d : Value) (w : World) : (Instr.field 40 (.agg #[a, b, c, d]) 0).run Try.prog w = .ok (.agg #[a, b, c]) w := by kernel_rfl
theorem hasI_2 (w : World) : Calls Try.prog 31 #[.agg #[.int .u8 1, .int .u32 1, .int .u8 2, .int .i64 9, .int .i64 3], .agg #[.int .u8 1, .int .u32 1, .int .u8 2, .int .i64 11]] w fun e w' => e = .returned (.tuple #[.int .i64 2, .bool true]) ∧ Below w.heap.size w w' := hasI_yes 1 1 2 9 3 1 1 2 11 (by decide +kernel) w
theorem hasI_3 (w : World) : Calls Try.prog 31 #[.agg #[.int .u8 1, .int .u32 1, .int .u8 2, .int .i64 9, .int .i64 3], .agg #[.int .u8 1, .int .u32 1, .int .u8 2, .int .i64 12]] w fun e w' => e = .returned (.tuple #[.int .i64 0, .bool false]) ∧ Below w.heap.size w w' := hasI_no 1 1 2 9 3 1 1 2 12 (by decide +kernel) (by decide +kernel) w
theorem cut_1 (w : World) : Calls Try.prog 35 #[.agg #[.int .u8 1, .int .u32 1, .int .u8 2, .int .i64 9, .int .i64 3], .int .i64 1] w fun e w' => e = .returned (.tuple #[.agg #[.int .u8 1, .int .u32 1, .int .u8 2, .int .i64 9, .int .i64 1], .agg #[.int .u8 1, .int .u32 1, .int .u8 2, .int .i64 10, .int .i64 2], .int .i64 0]) ∧ Below w.heap.size w w' := cut_ok 1 1 2 9 3 1 (by decide +kernel) w
theorem cut_0 (w : World) : Calls Try.prog 35 #[.agg #[.int .u8 1, .int .u32 1, .int .u8 2, .int .i64 9, .int .i64 3], .int .i64 0] w fun e w' => e = .returned (.tuple #[.agg #[.int .u8 0, .int .u32 0, .int .u8 0, .int .i64 0, .int .i64 0], .agg #[.int .u8 0, .int .u32 0, .int .u8 0, .int .i64 0, .int .i64 0], .int .i64 2]) ∧ Below w.heap.size w w' := cut_err 1 1 2 9 3 0 2 (by decide +kernel) (by decide) w
theorem at_3 (w : World) : Calls Try.prog 33 #[.agg #[.int .u8 1, .int .u32 1, .int .u8 2, .int .i64 9, .int .i64 3], .int .i64 3] w fun e w' => e = .returned (.tuple #[.agg #[.int .u8 0, .int .u32 0, .int .u8 0, .int .i64 0], .int .i64 2]) ∧ Below w.heap.size w w' := at_err 1 1 2 9 3 3 2 (by decide +kernel) (by decide) w

theorem Blk.cells1 {W : World} {p : Nat} {x0 x1 x2 x3 x4 : Value} {t : TypeId} (h : Blk W p #[x0, x1, x2, x3, x4] t) :
    (∀ X : Ext W, X.at'.cell? ⟨p, 0, none⟩ = some x0) ∧ (∀ X : Ext W, X.at'.cell? ⟨p, 1, none⟩ = some x1) ∧ (∀ X : Ext W, X.at'.cell? ⟨p, 2, none⟩ = some x2) ∧ (∀ X : Ext W, X.at'.cell? ⟨p, 3, none⟩ = some x3) ∧ (∀ X : Ext W, X.at'.cell? ⟨p, 4, none⟩ = some x4) :=
  ⟨h.at 0 rfl, h.at 1 rfl, h.at 2 rfl, h.at 3 rfl, h.at 4 rfl⟩

set_option maxRecDepth 100000 in
set_option maxHeartbeats 4000000 in
theorem idsNames_walk (w : World) : Calls Try.prog 13 #[] w fun e w' => e = .returned (.bool true) ∧ Below w.heap.size w w' := by
  go_enter Try.func13, Try.ntmps13
  go_wp2_with fail
  (with_reducible refine (by_any _ _ _ _).mono ?_); rintro _ w1 ⟨rfl, b1⟩
  go_upto_region 2 with (fail)
  have B := below_alloc b1 (.cells #[.int .u8 1, .int .u32 1, .int .u8 2, .int .i64 9, .int .i64 3] 44)
  have HS := Blk.new w1 #[.int .u8 1, .int .u32 1, .int .u8 2, .int .i64 9, .int .i64 3] 44
  generalize hP : w1.heap.size = P at HS ⊢
  generalize (World.alloc w1 _) = W at B HS ⊢
  clear hP b1
  obtain ⟨x, hx'⟩ := ext_at W
  rw [hx']; clear hx'
  obtain ⟨s0, s1, s2, s3, s4⟩ := HS.cells1
  have hne := ext_ne W
  refine wp_region_extW (by kernel_rfl) (by kernel_rfl) ?_
  repeat (go_big_quiet_step (first | (go_at_call 52; with_reducible exact Calls.ext (by_any _ _ _ _)) | (go_at_call 31; with_reducible exact Calls.ext (hasI_2 _))))
  refine wpQuiet_nil ?_
  rintro _ ⟨xx, rfl⟩
  go_wp2_with fail
  refine wp_region_extW (by kernel_rfl) (by kernel_rfl) ?_
  repeat (go_big_quiet_step (first | (go_at_call 52; with_reducible exact Calls.ext (by_any _ _ _ _)) | (go_at_call 31; with_reducible exact Calls.ext (hasI_3 _))))
  refine wpQuiet_nil ?_
  rintro _ ⟨xx, rfl⟩
  go_wp2_with fail
  (with_reducible refine (Calls.ext (cut_1 _)).mono ?_); rintro _ _ ⟨rfl, z, rfl⟩
  go_upto_region 5 with (fail)
  clear s0 s1 s2 s3 s4
  obtain ⟨U, HA, HB⟩ := boxI2 z.at' #[.int .u8 1, .int .u32 1, .int .u8 2, .int .i64 9, .int .i64 1] #[.int .u8 1, .int .u32 1, .int .u8 2, .int .i64 10, .int .i64 2] 44 44 _ rfl
  replace U := below_next z.below U
  replace B := below_next B U
  replace HS := HS.up U
  generalize hP : z.at'.heap.size = P1 at HA HB ⊢
  generalize (World.alloc (World.alloc z.at' _) _) = W1 at B U HS HA HB  ⊢
  clear hP U
  obtain ⟨x, hx'⟩ := ext_at W1
  rw [hx']; clear hx'
  obtain ⟨s0, s1, s2, s3, s4⟩ := HS.cells1
  go_wp2_with fail
  (with_reducible refine (Calls.ext (at_3 _)).mono ?_); rintro _ _ ⟨rfl, z, rfl⟩
  go_upto_region 6 with (fail)
  clear s0 s1 s2 s3 s4
  have U := below_alloc z.below (.cells #[.int .u8 0, .int .u32 0, .int .u8 0, .int .i64 0] 40)
  replace B := below_next B U
  replace HS := HS.up U
  replace HA := HA.up U
  replace HB := HB.up U
  generalize z.at'.heap.size = P2
  generalize (World.alloc z.at' _) = W2 at B U HS HA HB ⊢
  clear U
  obtain ⟨x, hx'⟩ := ext_at W2
  rw [hx']; clear hx'
  obtain ⟨s0, s1, s2, s3, s4⟩ := HS.cells1
  go_wp2_with fail
  (with_reducible refine (Calls.ext (cut_0 _)).mono ?_); rintro _ _ ⟨rfl, z, rfl⟩
  go_upto_region 7 with (fail)
  clear s0 s1 s2 s3 s4
  obtain ⟨U, HC, HD⟩ := boxI2 z.at' #[.int .u8 0, .int .u32 0, .int .u8 0, .int .i64 0, .int .i64 0] #[.int .u8 0, .int .u32 0, .int .u8 0, .int .i64 0, .int .i64 0] 44 44 _ rfl
  replace U := below_next z.below U
  replace B := below_next B U
  replace HS := HS.up U
  replace HA := HA.up U
  replace HB := HB.up U
  generalize hP : z.at'.heap.size = P3 at HC HD ⊢
  generalize (World.alloc (World.alloc z.at' _) _) = W3 at B U HS HC HD HA HB ⊢
  clear hP U
  obtain ⟨x, hx'⟩ := ext_at W3
  rw [hx']; clear hx'
  obtain ⟨s0, s1, s2, s3, s4⟩ := HS.cells1
  clear HC HD
  go_wp2_with fail
  (with_reducible refine (Calls.ext (get_nil _)).mono ?_); rintro _ _ ⟨rfl, z, rfl⟩
  go_upto_region 8 with (fail)
  clear s0 s1 s2 s3 s4
  have U := below_alloc z.below (.cells #[.int .u8 0, .int .u32 0, .int .u8 0, .int .i64 0] 40)
  replace B := below_next B U
  replace HS := HS.up U
  replace HA := HA.up U
  replace HB := HB.up U
  generalize z.at'.heap.size = P4
  generalize (World.alloc z.at' _) = W4 at B U HS HA HB ⊢
  clear U
  obtain ⟨x, hx'⟩ := ext_at W4
  rw [hx']; clear hx'
  obtain ⟨s0, s1, s2, s3, s4⟩ := HS.cells1
  obtain ⟨a0, a1, a2, a3, a4⟩ := HA.cells1
  obtain ⟨b0, b1, b2, b3, b4⟩ := HB.cells1
  clear hne
  have hne := ext_ne W4
  have hfld := field40
  go_wp2_with (first | (go_at_call 52; (with_reducible refine (Calls.ext (by_any _ _ _ _)).mono ?_); rintro _ _ ⟨rfl, _, rfl⟩) | (go_at_call 46; (with_reducible refine (Calls.ext (putH_bad _ _ _ _ (by decide +kernel))).mono ?_); rintro _ _ ⟨rfl, _, rfl⟩))
  refine wp_region_extW (by kernel_rfl) (by kernel_rfl) ?_
  repeat (go_big_quiet_step (first | (go_at_call 52; with_reducible exact Calls.ext (by_any _ _ _ _))))
  refine wpQuiet_nil ?_
  rintro _ ⟨xx, rfl⟩
  go_wp2_with (first | (go_at_call 29; (with_reducible refine (Calls.ext (alive5_any _)).mono ?_); rintro _ _ ⟨rfl, _, rfl⟩) | (go_at_call 52; (with_reducible refine (Calls.ext (by_any _ _ _ _)).mono ?_); rintro _ _ ⟨rfl, _, rfl⟩) | (go_at_call 37; (with_reducible refine (Calls.ext (checkI_no _ _ _ _ (by decide +kernel) _)).mono ?_); rintro _ _ ⟨rfl, _, rfl⟩) | (go_at_call 39; (with_reducible refine (Calls.ext (checkH_no _ _ _ (by decide +kernel) _)).mono ?_); rintro _ _ ⟨rfl, _, rfl⟩) | (go_at_call 41; (with_reducible refine (Calls.ext (checkS_ok _ _ _ _ _ (by decide +kernel) _)).mono ?_); rintro _ _ ⟨rfl, _, rfl⟩) | (go_at_call 41; (with_reducible refine (Calls.ext (checkS_no _ _ _ _ _ (by decide +kernel) _)).mono ?_); rintro _ _ ⟨rfl, _, rfl⟩))
  go_ret
  exact ⟨rfl, ext_below B _⟩

end Go.Proofs.Ytaloeaihnkkfeaa
