import Derived.Test.YtaloeaihnkkfeaaW8
namespace Go.Proofs.Ytaloeaihnkkfeaa
open Go.RowKit

set_option maxRecDepth 100000 in
set_option maxHeartbeats 1000000 in
theorem idsCut_err (l c n k m j i l2 c2 n2 k2 e0 : Int) (w : World) (h : cutE l n k m j = e0) (he : e0 ≠ 0) :
    Calls Try.prog 12 #[.agg #[.int .u8 l, .int .u32 c, .int .u8 n, .int .i64 k, .int .i64 m], .int .i64 j, .int .i64 i, .agg #[.int .u8 l2, .int .u32 c2, .int .u8 n2, .int .i64 k2]] w fun e w' => e = .returned (.bool true) ∧ Below w.heap.size w w' := by
  have he2 : (e0 != 0) = true := by simpa using he
  go_enter Try.func12, Try.ntmps12
  go_wp2_with fail
  obtain ⟨B, HS, HI⟩ := boxI2 w #[.int .u8 l, .int .u32 c, .int .u8 n, .int .i64 k, .int .i64 m] #[.int .u8 l2, .int .u32 c2, .int .u8 n2, .int .i64 k2] 44 40 _ rfl
  generalize (World.alloc (World.alloc w _) _) = W at B HS HI ⊢
  obtain ⟨x, hx'⟩ := ext_at W
  rw [hx']; clear hx'
  (with_reducible refine (Calls.ext (alive5_any _)).mono ?_); rintro _ _ ⟨rfl, y, rfl⟩
  have s0 := HS.at 0 rfl
  have s1 := HS.at 1 rfl
  have s2 := HS.at 2 rfl
  have s3 := HS.at 3 rfl
  have s4 := HS.at 4 rfl
  go_wp2_with fail
  (with_reducible refine (Calls.ext (cut_err l c n k m j e0 h he _)).mono ?_); rintro _ _ ⟨rfl, z, rfl⟩
  go_upto_region 3 with (fail)
  clear s0 s1 s2 s3 s4
  obtain ⟨U, HA, HB⟩ := boxI2 z.at' #[.int .u8 0, .int .u32 0, .int .u8 0, .int .i64 0, .int .i64 0] #[.int .u8 0, .int .u32 0, .int .u8 0, .int .i64 0, .int .i64 0] 44 44 _ rfl
  replace U := below_next z.below U
  replace B := below_next B U
  replace HS := HS.up U
  replace HI := HI.up U
  generalize hP : z.at'.heap.size = P at HA HB ⊢
  generalize (World.alloc (World.alloc z.at' _) _) = W1 at B U HS HI HA HB ⊢
  clear hP U
  obtain ⟨x, hx'⟩ := ext_at W1
  rw [hx']; clear hx'
  have s0 := HS.at 0 rfl
  have s1 := HS.at 1 rfl
  have s2 := HS.at 2 rfl
  have s3 := HS.at 3 rfl
  have s4 := HS.at 4 rfl
  have d0 := HI.at 0 rfl
  have d1 := HI.at 1 rfl
  have d2 := HI.at 2 rfl
  have d3 := HI.at 3 rfl
  have a0 := HA.at 0 rfl
  have a1 := HA.at 1 rfl
  have a2 := HA.at 2 rfl
  have a3 := HA.at 3 rfl
  have a4 := HA.at 4 rfl
  have b0 := HB.at 0 rfl
  have b1 := HB.at 1 rfl
  have b2 := HB.at 2 rfl
  have b3 := HB.at 3 rfl
  have b4 := HB.at 4 rfl
  go_wp2_with fail
  go_ret
  exact ⟨rfl, ext_below B _⟩

set_option maxRecDepth 100000 in
set_option maxHeartbeats 4000000 in
theorem idsCut_ok (l c n k m j i l2 c2 n2 k2 : Int) (w : World) (u f g : Bool) (h : cutE l n k m j = 0) (g1 : 1 ≤ j) (g2 : j < m) (g3 : m ≤ 64) (_g4 : 1 ≤ k) (_g5 : k ≤ 1099511627776)
    (hSa : mayS l n k j = true) (hSb : mayS l n (k + j) (m - j) = true) (bk : Hid (I64 k2))
    (hu : hasR l c n k m l2 c2 n2 k2 = u) (hf : hasR l c n k j l2 c2 n2 k2 = f) (hg : hasR l c n (k + j) (m - j) l2 c2 n2 k2 = g)
    (hcase : (u = false ∧ f = false ∧ g = false) ∨ (u = true ∧ f = true ∧ g = false) ∨ (u = true ∧ f = false ∧ g = true ∧ 0 ≤ k2 - (k + j) ∧ k2 - (k + j) < 64))
    (hat : (atE l n k m i = 2 ∧ decide (i < 0) = true) ∨ (atE l n k m i = 2 ∧ decide (i < 0) = false ∧ decide (m ≤ i) = true) ∨
      (atE l n k m i = 0 ∧ (i == 0) = true ∧ 0 ≤ i ∧ i < 64 ∧ hasR l c n k m l c n (k + i) = true) ∨ (atE l n k m i = 0 ∧ (i == 0) = false ∧ 0 ≤ i ∧ i < 64 ∧ hasR l c n k m l c n (k + i) = true ∧ lessB l c n k l c n (k + i) = true)) :
    Calls Try.prog 12 #[.agg #[.int .u8 l, .int .u32 c, .int .u8 n, .int .i64 k, .int .i64 m], .int .i64 j, .int .i64 i, .agg #[.int .u8 l2, .int .u32 c2, .int .u8 n2, .int .i64 k2]] w fun e w' => e = .returned (.bool true) ∧ Below w.heap.size w w' := by
  go_enter Try.func12, Try.ntmps12
  go_wp2_with fail
  obtain ⟨B, HS, HI⟩ := boxI2 w #[.int .u8 l, .int .u32 c, .int .u8 n, .int .i64 k, .int .i64 m] #[.int .u8 l2, .int .u32 c2, .int .u8 n2, .int .i64 k2] 44 40 _ rfl
  generalize (World.alloc (World.alloc w _) _) = W at B HS HI ⊢
  obtain ⟨x, hx'⟩ := ext_at W
  rw [hx']; clear hx'
  (with_reducible refine (Calls.ext (alive5_any _)).mono ?_); rintro _ _ ⟨rfl, y, rfl⟩
  have s0 := HS.at 0 rfl
  have s1 := HS.at 1 rfl
  have s2 := HS.at 2 rfl
  have s3 := HS.at 3 rfl
  have s4 := HS.at 4 rfl
  go_wp2_with fail
  (with_reducible refine (Calls.ext (cut_ok l c n k m j h _)).mono ?_); rintro _ _ ⟨rfl, z, rfl⟩
  go_upto_region 3 with (fail)
  clear s0 s1 s2 s3 s4
  obtain ⟨U, HA, HB⟩ := boxI2 z.at' #[.int .u8 l, .int .u32 c, .int .u8 n, .int .i64 k, .int .i64 j] #[.int .u8 l, .int .u32 c, .int .u8 n, .int .i64 (k + j), .int .i64 (m - j)] 44 44 _ rfl
  replace U := below_next z.below U
  replace B := below_next B U
  replace HS := HS.up U
  replace HI := HI.up U
  generalize hP : z.at'.heap.size = P at HA HB ⊢
  generalize (World.alloc (World.alloc z.at' _) _) = W1 at B U HS HI HA HB ⊢
  clear hP U
  obtain ⟨x, hx'⟩ := ext_at W1
  rw [hx']; clear hx'
  have s0 := HS.at 0 rfl
  have s1 := HS.at 1 rfl
  have s2 := HS.at 2 rfl
  have s3 := HS.at 3 rfl
  have s4 := HS.at 4 rfl
  have d0 := HI.at 0 rfl
  have d1 := HI.at 1 rfl
  have d2 := HI.at 2 rfl
  have d3 := HI.at 3 rfl
  have a0 := HA.at 0 rfl
  have a1 := HA.at 1 rfl
  have a2 := HA.at 2 rfl
  have a3 := HA.at 3 rfl
  have a4 := HA.at 4 rfl
  have b0 := HB.at 0 rfl
  have b1 := HB.at 1 rfl
  have b2 := HB.at 2 rfl
  have b3 := HB.at 3 rfl
  have b4 := HB.at 4 rfl
  rcases hcase with ⟨rfl, rfl, rfl⟩ | ⟨rfl, rfl, rfl⟩ | ⟨rfl, rfl, rfl, g6, g7⟩
  · go_wp2_with (first | (go_at_call 41; (with_reducible refine (Calls.ext (checkS_ok _ _ _ _ _ hSa _)).mono ?_); rintro _ _ ⟨rfl, _, rfl⟩) | (go_at_call 41; (with_reducible refine (Calls.ext (checkS_ok _ _ _ _ _ hSb _)).mono ?_); rintro _ _ ⟨rfl, _, rfl⟩) | (go_at_call 31; (with_reducible refine (Calls.ext (hasI_no _ _ _ _ _ _ _ _ _ bk.out hu _)).mono ?_); rintro _ _ ⟨rfl, _, rfl⟩) | (go_at_call 31; (with_reducible refine (Calls.ext (hasI_no _ _ _ _ _ _ _ _ _ bk.out hf _)).mono ?_); rintro _ _ ⟨rfl, _, rfl⟩) | (go_at_call 31; (with_reducible refine (Calls.ext (hasI_no _ _ _ _ _ _ _ _ _ bk.out hg _)).mono ?_); rintro _ _ ⟨rfl, _, rfl⟩))
    rcases hat with ⟨h1, h2⟩ | ⟨h1, h2, h3⟩ | ⟨h1, h2, h3, h4, h5⟩ | ⟨h1, h2, h3, h4, h5, h6⟩
    · (with_reducible refine (Calls.ext (at_err l c n k m i 2 h1 (by decide) _)).mono ?_); rintro _ _ ⟨rfl, z, rfl⟩
      go_upto_region 13 with (fail)
      have U := below_alloc z.below (.cells #[.int .u8 0, .int .u32 0, .int .u8 0, .int .i64 0] 40)
      have HX := Blk.new z.at' #[.int .u8 0, .int .u32 0, .int .u8 0, .int .i64 0] 40
      replace B := below_next B U
      replace HS := HS.up U
      generalize hP : z.at'.heap.size = P2 at HX ⊢
      generalize (World.alloc z.at' _) = W2 at B U HS HX ⊢
      clear hP U s0 s1 s2 s3 s4 d0 d1 d2 d3 a0 a1 a2 a3 a4 b0 b1 b2 b3 b4
      obtain ⟨x, hx'⟩ := ext_at W2
      rw [hx']; clear hx'
      have s0 := HS.at 0 rfl
      have s1 := HS.at 1 rfl
      have s2 := HS.at 2 rfl
      have s3 := HS.at 3 rfl
      have s4 := HS.at 4 rfl
      have e0 := HX.at 0 rfl
      have e1 := HX.at 1 rfl
      have e2 := HX.at 2 rfl
      have e3 := HX.at 3 rfl
      go_wp2_with (fail)
      go_ret
      exact ⟨rfl, ext_below B _⟩
    · (with_reducible refine (Calls.ext (at_err l c n k m i 2 h1 (by decide) _)).mono ?_); rintro _ _ ⟨rfl, z, rfl⟩
      go_upto_region 13 with (fail)
      have U := below_alloc z.below (.cells #[.int .u8 0, .int .u32 0, .int .u8 0, .int .i64 0] 40)
      have HX := Blk.new z.at' #[.int .u8 0, .int .u32 0, .int .u8 0, .int .i64 0] 40
      replace B := below_next B U
      replace HS := HS.up U
      generalize hP : z.at'.heap.size = P2 at HX ⊢
      generalize (World.alloc z.at' _) = W2 at B U HS HX ⊢
      clear hP U s0 s1 s2 s3 s4 d0 d1 d2 d3 a0 a1 a2 a3 a4 b0 b1 b2 b3 b4
      obtain ⟨x, hx'⟩ := ext_at W2
      rw [hx']; clear hx'
      have s0 := HS.at 0 rfl
      have s1 := HS.at 1 rfl
      have s2 := HS.at 2 rfl
      have s3 := HS.at 3 rfl
      have s4 := HS.at 4 rfl
      have e0 := HX.at 0 rfl
      have e1 := HX.at 1 rfl
      have e2 := HX.at 2 rfl
      have e3 := HX.at 3 rfl
      go_wp2_with (fail)
      go_ret
      exact ⟨rfl, ext_below B _⟩
    · (with_reducible refine (Calls.ext (at_ok l c n k m i h1 _)).mono ?_); rintro _ _ ⟨rfl, z, rfl⟩
      go_upto_region 13 with (fail)
      have U := below_alloc z.below (.cells #[.int .u8 l, .int .u32 c, .int .u8 n, .int .i64 (k + i)] 40)
      have HX := Blk.new z.at' #[.int .u8 l, .int .u32 c, .int .u8 n, .int .i64 (k + i)] 40
      replace B := below_next B U
      replace HS := HS.up U
      generalize hP : z.at'.heap.size = P2 at HX ⊢
      generalize (World.alloc z.at' _) = W2 at B U HS HX ⊢
      clear hP U s0 s1 s2 s3 s4 d0 d1 d2 d3 a0 a1 a2 a3 a4 b0 b1 b2 b3 b4
      obtain ⟨x, hx'⟩ := ext_at W2
      rw [hx']; clear hx'
      have s0 := HS.at 0 rfl
      have s1 := HS.at 1 rfl
      have s2 := HS.at 2 rfl
      have s3 := HS.at 3 rfl
      have s4 := HS.at 4 rfl
      have e0 := HX.at 0 rfl
      have e1 := HX.at 1 rfl
      have e2 := HX.at 2 rfl
      have e3 := HX.at 3 rfl
      go_wp2_with (first | (go_at_call 31; (with_reducible refine (Calls.ext (hasI_yes _ _ _ _ _ _ _ _ _ h5 _)).mono ?_); rintro _ _ ⟨rfl, _, rfl⟩))
      go_ret
      exact ⟨rfl, ext_below B _⟩
    · (with_reducible refine (Calls.ext (at_ok l c n k m i h1 _)).mono ?_); rintro _ _ ⟨rfl, z, rfl⟩
      go_upto_region 13 with (fail)
      have U := below_alloc z.below (.cells #[.int .u8 l, .int .u32 c, .int .u8 n, .int .i64 (k + i)] 40)
      have HX := Blk.new z.at' #[.int .u8 l, .int .u32 c, .int .u8 n, .int .i64 (k + i)] 40
      replace B := below_next B U
      replace HS := HS.up U
      generalize hP : z.at'.heap.size = P2 at HX ⊢
      generalize (World.alloc z.at' _) = W2 at B U HS HX ⊢
      clear hP U s0 s1 s2 s3 s4 d0 d1 d2 d3 a0 a1 a2 a3 a4 b0 b1 b2 b3 b4
      obtain ⟨x, hx'⟩ := ext_at W2
      rw [hx']; clear hx'
      have s0 := HS.at 0 rfl
      have s1 := HS.at 1 rfl
      have s2 := HS.at 2 rfl
      have s3 := HS.at 3 rfl
      have s4 := HS.at 4 rfl
      have e0 := HX.at 0 rfl
      have e1 := HX.at 1 rfl
      have e2 := HX.at 2 rfl
      have e3 := HX.at 3 rfl
      go_wp2_with (first | (go_at_call 31; (with_reducible refine (Calls.ext (hasI_yes _ _ _ _ _ _ _ _ _ h5 _)).mono ?_); rintro _ _ ⟨rfl, _, rfl⟩) | (go_at_call 30; (with_reducible refine (Calls.ext (less_is _ _ _ _ _ _ _ _ _ h6 _)).mono ?_); rintro _ _ ⟨rfl, _, rfl⟩))
      go_ret
      exact ⟨rfl, ext_below B _⟩
  · go_wp2_with (first | (go_at_call 41; (with_reducible refine (Calls.ext (checkS_ok _ _ _ _ _ hSa _)).mono ?_); rintro _ _ ⟨rfl, _, rfl⟩) | (go_at_call 41; (with_reducible refine (Calls.ext (checkS_ok _ _ _ _ _ hSb _)).mono ?_); rintro _ _ ⟨rfl, _, rfl⟩) | (go_at_call 31; (with_reducible refine (Calls.ext (hasI_yes _ _ _ _ _ _ _ _ _ hu _)).mono ?_); rintro _ _ ⟨rfl, _, rfl⟩) | (go_at_call 31; (with_reducible refine (Calls.ext (hasI_yes _ _ _ _ _ _ _ _ _ hf _)).mono ?_); rintro _ _ ⟨rfl, _, rfl⟩) | (go_at_call 31; (with_reducible refine (Calls.ext (hasI_no _ _ _ _ _ _ _ _ _ bk.out hg _)).mono ?_); rintro _ _ ⟨rfl, _, rfl⟩))
    rcases hat with ⟨h1, h2⟩ | ⟨h1, h2, h3⟩ | ⟨h1, h2, h3, h4, h5⟩ | ⟨h1, h2, h3, h4, h5, h6⟩
    · (with_reducible refine (Calls.ext (at_err l c n k m i 2 h1 (by decide) _)).mono ?_); rintro _ _ ⟨rfl, z, rfl⟩
      go_upto_region 13 with (fail)
      have U := below_alloc z.below (.cells #[.int .u8 0, .int .u32 0, .int .u8 0, .int .i64 0] 40)
      have HX := Blk.new z.at' #[.int .u8 0, .int .u32 0, .int .u8 0, .int .i64 0] 40
      replace B := below_next B U
      replace HS := HS.up U
      generalize hP : z.at'.heap.size = P2 at HX ⊢
      generalize (World.alloc z.at' _) = W2 at B U HS HX ⊢
      clear hP U s0 s1 s2 s3 s4 d0 d1 d2 d3 a0 a1 a2 a3 a4 b0 b1 b2 b3 b4
      obtain ⟨x, hx'⟩ := ext_at W2
      rw [hx']; clear hx'
      have s0 := HS.at 0 rfl
      have s1 := HS.at 1 rfl
      have s2 := HS.at 2 rfl
      have s3 := HS.at 3 rfl
      have s4 := HS.at 4 rfl
      have e0 := HX.at 0 rfl
      have e1 := HX.at 1 rfl
      have e2 := HX.at 2 rfl
      have e3 := HX.at 3 rfl
      go_wp2_with (fail)
      go_ret
      exact ⟨rfl, ext_below B _⟩
    · (with_reducible refine (Calls.ext (at_err l c n k m i 2 h1 (by decide) _)).mono ?_); rintro _ _ ⟨rfl, z, rfl⟩
      go_upto_region 13 with (fail)
      have U := below_alloc z.below (.cells #[.int .u8 0, .int .u32 0, .int .u8 0, .int .i64 0] 40)
      have HX := Blk.new z.at' #[.int .u8 0, .int .u32 0, .int .u8 0, .int .i64 0] 40
      replace B := below_next B U
      replace HS := HS.up U
      generalize hP : z.at'.heap.size = P2 at HX ⊢
      generalize (World.alloc z.at' _) = W2 at B U HS HX ⊢
      clear hP U s0 s1 s2 s3 s4 d0 d1 d2 d3 a0 a1 a2 a3 a4 b0 b1 b2 b3 b4
      obtain ⟨x, hx'⟩ := ext_at W2
      rw [hx']; clear hx'
      have s0 := HS.at 0 rfl
      have s1 := HS.at 1 rfl
      have s2 := HS.at 2 rfl
      have s3 := HS.at 3 rfl
      have s4 := HS.at 4 rfl
      have e0 := HX.at 0 rfl
      have e1 := HX.at 1 rfl
      have e2 := HX.at 2 rfl
      have e3 := HX.at 3 rfl
      go_wp2_with (fail)
      go_ret
      exact ⟨rfl, ext_below B _⟩
    · (with_reducible refine (Calls.ext (at_ok l c n k m i h1 _)).mono ?_); rintro _ _ ⟨rfl, z, rfl⟩
      go_upto_region 13 with (fail)
      have U := below_alloc z.below (.cells #[.int .u8 l, .int .u32 c, .int .u8 n, .int .i64 (k + i)] 40)
      have HX := Blk.new z.at' #[.int .u8 l, .int .u32 c, .int .u8 n, .int .i64 (k + i)] 40
      replace B := below_next B U
      replace HS := HS.up U
      generalize hP : z.at'.heap.size = P2 at HX ⊢
      generalize (World.alloc z.at' _) = W2 at B U HS HX ⊢
      clear hP U s0 s1 s2 s3 s4 d0 d1 d2 d3 a0 a1 a2 a3 a4 b0 b1 b2 b3 b4
      obtain ⟨x, hx'⟩ := ext_at W2
      rw [hx']; clear hx'
      have s0 := HS.at 0 rfl
      have s1 := HS.at 1 rfl
      have s2 := HS.at 2 rfl
      have s3 := HS.at 3 rfl
      have s4 := HS.at 4 rfl
      have e0 := HX.at 0 rfl
      have e1 := HX.at 1 rfl
      have e2 := HX.at 2 rfl
      have e3 := HX.at 3 rfl
      go_wp2_with (first | (go_at_call 31; (with_reducible refine (Calls.ext (hasI_yes _ _ _ _ _ _ _ _ _ h5 _)).mono ?_); rintro _ _ ⟨rfl, _, rfl⟩))
      go_ret
      exact ⟨rfl, ext_below B _⟩
    · (with_reducible refine (Calls.ext (at_ok l c n k m i h1 _)).mono ?_); rintro _ _ ⟨rfl, z, rfl⟩
      go_upto_region 13 with (fail)
      have U := below_alloc z.below (.cells #[.int .u8 l, .int .u32 c, .int .u8 n, .int .i64 (k + i)] 40)
      have HX := Blk.new z.at' #[.int .u8 l, .int .u32 c, .int .u8 n, .int .i64 (k + i)] 40
      replace B := below_next B U
      replace HS := HS.up U
      generalize hP : z.at'.heap.size = P2 at HX ⊢
      generalize (World.alloc z.at' _) = W2 at B U HS HX ⊢
      clear hP U s0 s1 s2 s3 s4 d0 d1 d2 d3 a0 a1 a2 a3 a4 b0 b1 b2 b3 b4
      obtain ⟨x, hx'⟩ := ext_at W2
      rw [hx']; clear hx'
      have s0 := HS.at 0 rfl
      have s1 := HS.at 1 rfl
      have s2 := HS.at 2 rfl
      have s3 := HS.at 3 rfl
      have s4 := HS.at 4 rfl
      have e0 := HX.at 0 rfl
      have e1 := HX.at 1 rfl
      have e2 := HX.at 2 rfl
      have e3 := HX.at 3 rfl
      go_wp2_with (first | (go_at_call 31; (with_reducible refine (Calls.ext (hasI_yes _ _ _ _ _ _ _ _ _ h5 _)).mono ?_); rintro _ _ ⟨rfl, _, rfl⟩) | (go_at_call 30; (with_reducible refine (Calls.ext (less_is _ _ _ _ _ _ _ _ _ h6 _)).mono ?_); rintro _ _ ⟨rfl, _, rfl⟩))
      go_ret
      exact ⟨rfl, ext_below B _⟩
  · go_wp2_with (first | (go_at_call 41; (with_reducible refine (Calls.ext (checkS_ok _ _ _ _ _ hSa _)).mono ?_); rintro _ _ ⟨rfl, _, rfl⟩) | (go_at_call 41; (with_reducible refine (Calls.ext (checkS_ok _ _ _ _ _ hSb _)).mono ?_); rintro _ _ ⟨rfl, _, rfl⟩) | (go_at_call 31; (with_reducible refine (Calls.ext (hasI_yes _ _ _ _ _ _ _ _ _ hu _)).mono ?_); rintro _ _ ⟨rfl, _, rfl⟩) | (go_at_call 31; (with_reducible refine (Calls.ext (hasI_no _ _ _ _ _ _ _ _ _ bk.out hf _)).mono ?_); rintro _ _ ⟨rfl, _, rfl⟩) | (go_at_call 31; (with_reducible refine (Calls.ext (hasI_yes _ _ _ _ _ _ _ _ _ hg _)).mono ?_); rintro _ _ ⟨rfl, _, rfl⟩))
    rcases hat with ⟨h1, h2⟩ | ⟨h1, h2, h3⟩ | ⟨h1, h2, h3, h4, h5⟩ | ⟨h1, h2, h3, h4, h5, h6⟩
    · (with_reducible refine (Calls.ext (at_err l c n k m i 2 h1 (by decide) _)).mono ?_); rintro _ _ ⟨rfl, z, rfl⟩
      go_upto_region 13 with (fail)
      have U := below_alloc z.below (.cells #[.int .u8 0, .int .u32 0, .int .u8 0, .int .i64 0] 40)
      have HX := Blk.new z.at' #[.int .u8 0, .int .u32 0, .int .u8 0, .int .i64 0] 40
      replace B := below_next B U
      replace HS := HS.up U
      generalize hP : z.at'.heap.size = P2 at HX ⊢
      generalize (World.alloc z.at' _) = W2 at B U HS HX ⊢
      clear hP U s0 s1 s2 s3 s4 d0 d1 d2 d3 a0 a1 a2 a3 a4 b0 b1 b2 b3 b4
      obtain ⟨x, hx'⟩ := ext_at W2
      rw [hx']; clear hx'
      have s0 := HS.at 0 rfl
      have s1 := HS.at 1 rfl
      have s2 := HS.at 2 rfl
      have s3 := HS.at 3 rfl
      have s4 := HS.at 4 rfl
      have e0 := HX.at 0 rfl
      have e1 := HX.at 1 rfl
      have e2 := HX.at 2 rfl
      have e3 := HX.at 3 rfl
      go_wp2_with (fail)
      go_ret
      exact ⟨rfl, ext_below B _⟩
    · (with_reducible refine (Calls.ext (at_err l c n k m i 2 h1 (by decide) _)).mono ?_); rintro _ _ ⟨rfl, z, rfl⟩
      go_upto_region 13 with (fail)
      have U := below_alloc z.below (.cells #[.int .u8 0, .int .u32 0, .int .u8 0, .int .i64 0] 40)
      have HX := Blk.new z.at' #[.int .u8 0, .int .u32 0, .int .u8 0, .int .i64 0] 40
      replace B := below_next B U
      replace HS := HS.up U
      generalize hP : z.at'.heap.size = P2 at HX ⊢
      generalize (World.alloc z.at' _) = W2 at B U HS HX ⊢
      clear hP U s0 s1 s2 s3 s4 d0 d1 d2 d3 a0 a1 a2 a3 a4 b0 b1 b2 b3 b4
      obtain ⟨x, hx'⟩ := ext_at W2
      rw [hx']; clear hx'
      have s0 := HS.at 0 rfl
      have s1 := HS.at 1 rfl
      have s2 := HS.at 2 rfl
      have s3 := HS.at 3 rfl
      have s4 := HS.at 4 rfl
      have e0 := HX.at 0 rfl
      have e1 := HX.at 1 rfl
      have e2 := HX.at 2 rfl
      have e3 := HX.at 3 rfl
      go_wp2_with (fail)
      go_ret
      exact ⟨rfl, ext_below B _⟩
    · (with_reducible refine (Calls.ext (at_ok l c n k m i h1 _)).mono ?_); rintro _ _ ⟨rfl, z, rfl⟩
      go_upto_region 13 with (fail)
      have U := below_alloc z.below (.cells #[.int .u8 l, .int .u32 c, .int .u8 n, .int .i64 (k + i)] 40)
      have HX := Blk.new z.at' #[.int .u8 l, .int .u32 c, .int .u8 n, .int .i64 (k + i)] 40
      replace B := below_next B U
      replace HS := HS.up U
      generalize hP : z.at'.heap.size = P2 at HX ⊢
      generalize (World.alloc z.at' _) = W2 at B U HS HX ⊢
      clear hP U s0 s1 s2 s3 s4 d0 d1 d2 d3 a0 a1 a2 a3 a4 b0 b1 b2 b3 b4
      obtain ⟨x, hx'⟩ := ext_at W2
      rw [hx']; clear hx'
      have s0 := HS.at 0 rfl
      have s1 := HS.at 1 rfl
      have s2 := HS.at 2 rfl
      have s3 := HS.at 3 rfl
      have s4 := HS.at 4 rfl
      have e0 := HX.at 0 rfl
      have e1 := HX.at 1 rfl
      have e2 := HX.at 2 rfl
      have e3 := HX.at 3 rfl
      go_wp2_with (first | (go_at_call 31; (with_reducible refine (Calls.ext (hasI_yes _ _ _ _ _ _ _ _ _ h5 _)).mono ?_); rintro _ _ ⟨rfl, _, rfl⟩))
      go_ret
      exact ⟨rfl, ext_below B _⟩
    · (with_reducible refine (Calls.ext (at_ok l c n k m i h1 _)).mono ?_); rintro _ _ ⟨rfl, z, rfl⟩
      go_upto_region 13 with (fail)
      have U := below_alloc z.below (.cells #[.int .u8 l, .int .u32 c, .int .u8 n, .int .i64 (k + i)] 40)
      have HX := Blk.new z.at' #[.int .u8 l, .int .u32 c, .int .u8 n, .int .i64 (k + i)] 40
      replace B := below_next B U
      replace HS := HS.up U
      generalize hP : z.at'.heap.size = P2 at HX ⊢
      generalize (World.alloc z.at' _) = W2 at B U HS HX ⊢
      clear hP U s0 s1 s2 s3 s4 d0 d1 d2 d3 a0 a1 a2 a3 a4 b0 b1 b2 b3 b4
      obtain ⟨x, hx'⟩ := ext_at W2
      rw [hx']; clear hx'
      have s0 := HS.at 0 rfl
      have s1 := HS.at 1 rfl
      have s2 := HS.at 2 rfl
      have s3 := HS.at 3 rfl
      have s4 := HS.at 4 rfl
      have e0 := HX.at 0 rfl
      have e1 := HX.at 1 rfl
      have e2 := HX.at 2 rfl
      have e3 := HX.at 3 rfl
      go_wp2_with (first | (go_at_call 31; (with_reducible refine (Calls.ext (hasI_yes _ _ _ _ _ _ _ _ _ h5 _)).mono ?_); rintro _ _ ⟨rfl, _, rfl⟩) | (go_at_call 30; (with_reducible refine (Calls.ext (less_is _ _ _ _ _ _ _ _ _ h6 _)).mono ?_); rintro _ _ ⟨rfl, _, rfl⟩))
      go_ret
      exact ⟨rfl, ext_below B _⟩

theorem idsCut_all (l c n k m j i l2 c2 n2 k2 : Int) (w : World) (_b0 : 0 ≤ l ∧ l ≤ 255) (_b1 : 0 ≤ c ∧ c < 4294967296) (_b2 : 0 ≤ n ∧ n ≤ 255) (_b3 : I64 k) (_b4 : I64 m) (_b5 : I64 j) (_b6 : I64 i) (_b7 : 0 ≤ l2 ∧ l2 ≤ 255) (_b8 : 0 ≤ c2 ∧ c2 < 4294967296) (_b9 : 0 ≤ n2 ∧ n2 ≤ 255) (b10 : I64 k2) :
    Calls Try.prog 12 #[.agg #[.int .u8 l, .int .u32 c, .int .u8 n, .int .i64 k, .int .i64 m], .int .i64 j, .int .i64 i, .agg #[.int .u8 l2, .int .u32 c2, .int .u8 n2, .int .i64 k2]] w fun e w' => e = .returned (.bool true) ∧ Below w.heap.size w w' := by
  by_cases h : cutE l n k m j = 0
  · have hc : mayS l n k m = true ∧ 1 ≤ j ∧ j < m := by
      unfold cutE at h
      split at h
      · split at h
        · exact ⟨by assumption, by assumption⟩
        · omega
      · omega
    obtain ⟨hS, g1, g2⟩ := hc
    have hs := (mayS_iff l n k m).1 hS
    have hu := hasR_iff l c n k m l2 c2 n2 k2
    have hf := hasR_iff l c n k j l2 c2 n2 k2
    have hg := hasR_iff l c n (k + j) (m - j) l2 c2 n2 k2
    have hSa : mayS l n k j = true := (mayS_iff _ _ _ _).2 (by omega)
    have hSb : mayS l n (k + j) (m - j) = true := (mayS_iff _ _ _ _).2 (by omega)
    rw [hS] at hu
    rw [hSa] at hf
    rw [hSb] at hg
    simp only [true_and] at hu hf hg
    refine idsCut_ok l c n k m j i l2 c2 n2 k2 w (hasR l c n k m l2 c2 n2 k2) (hasR l c n k j l2 c2 n2 k2) (hasR l c n (k + j) (m - j) l2 c2 n2 k2) h g1 g2 (by omega) (by omega) (by omega) hSa hSb (hid b10) rfl rfl rfl ?_ ?_
    · generalize hasR l c n k m l2 c2 n2 k2 = u at *
      generalize hasR l c n k j l2 c2 n2 k2 = f at *
      generalize hasR l c n (k + j) (m - j) l2 c2 n2 k2 = g at *
      cases f
      · have hf' : ¬ _ := fun h => absurd (hf.2 h) (by simp)
        cases g
        · have hg' : ¬ _ := fun h => absurd (hg.2 h) (by simp)
          obtain rfl : u = false := Bool.eq_false_iff.2 fun h => by have := hu.1 h; omega
          exact .inl ⟨rfl, rfl, rfl⟩
        · have hg' := hg.1 rfl
          obtain rfl : u = true := hu.2 (by omega)
          exact .inr (.inr ⟨rfl, rfl, rfl, by omega, by omega⟩)
      · have hf' := hf.1 rfl
        obtain rfl : u = true := hu.2 (by omega)
        obtain rfl : g = false := Bool.eq_false_iff.2 fun h => by have := hg.1 h; omega
        exact .inr (.inl ⟨rfl, rfl, rfl⟩)
    · clear hu hf hg h
      by_cases h1 : 0 ≤ i ∧ i < m
      · have ha : atE l n k m i = 0 := by simp [atE, hS, h1]
        have hr : hasR l c n k m l c n (k + i) = true := (hasR_iff _ _ _ _ _ _ _ _ _).2 ⟨hS, by omega, by omega, rfl, rfl, rfl⟩
        by_cases h2 : i = 0
        · exact .inr (.inr (.inl ⟨ha, by simpa using h2, by omega, by omega, hr⟩))
        · exact .inr (.inr (.inr ⟨ha, by simpa using h2, by omega, by omega, hr, (lessB_iff _ _ _ _ _ _ _ _).2 (by omega)⟩))
      · have ha : atE l n k m i = 2 := by simp [atE, hS, h1]
        by_cases h2 : i < 0
        · exact .inl ⟨ha, decide_eq_true h2⟩
        · exact .inr (.inl ⟨ha, decide_eq_false h2, decide_eq_true (by omega)⟩)
  · exact idsCut_err l c n k m j i l2 c2 n2 k2 _ w rfl h

end Go.Proofs.Ytaloeaihnkkfeaa
