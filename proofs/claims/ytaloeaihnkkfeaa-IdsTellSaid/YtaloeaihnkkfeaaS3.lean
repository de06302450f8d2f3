import Derived.Test.YtaloeaihnkkfeaaS2
namespace Go.Proofs.Ytaloeaihnkkfeaa
open Go.RowKit

theorem all_nat (l c n k : Int) (M : Nat) (w : World) (h1 : 1 ≤ k) (h2 : k ≤ 1099511627776) (h3 : 1 ≤ M) (hM : M ≤ 64) :
    Calls Try.prog 61 #[.agg #[.int .u8 l, .int .u32 c, .int .u8 n, .int .i64 k, .int .i64 (M : Int)]] w fun e w' => ∃ g cap, e = .returned (.slice (some ⟨g, 0, none⟩) M cap) ∧ AllAt w' g l c n k M ∧ Below w.heap.size w w' ∧ w.heap.size ≤ g := by
  have := all_lit l c n k M w h1 h2 (by omega) (by omega)
  simpa using this

set_option maxRecDepth 100000 in
set_option maxHeartbeats 1000000 in
theorem rat_bad (l c n k m j : Int) (w : World) (hS : mayS l n k m = false) :
    Calls Try.prog 34 #[.agg #[.int .u8 l, .int .u32 c, .int .u8 n, .int .i64 k, .int .i64 m], .int .i64 j] w fun e w' => e = .returned (.tuple #[.agg #[.int .u8 0, .int .u32 0, .int .u8 0, .int .i64 0], .int .i64 8]) ∧ Below w.heap.size w w' := by
  go_enter Try.func34, Try.ntmps34
  go_wp2_with fail
  obtain ⟨B, HA, HB⟩ := boxI2 w #[.int .u8 l, .int .u32 c, .int .u8 n, .int .i64 k, .int .i64 m] #[.int .u8 0, .int .u32 0, .int .u8 0, .int .i64 0] 44 40 _ rfl
  generalize (World.alloc (World.alloc w _) _) = W at B HA HB ⊢
  obtain ⟨x, hx'⟩ := ext_at W
  rw [hx']; clear hx'
  have s0 := HA.at 0 rfl
  have s1 := HA.at 1 rfl
  have s2 := HA.at 2 rfl
  have s3 := HA.at 3 rfl
  have s4 := HA.at 4 rfl
  have i0 := HB.at 0 rfl
  have i1 := HB.at 1 rfl
  have i2 := HB.at 2 rfl
  have i3 := HB.at 3 rfl
  have f0 := HB.free 0
  have f1 := HB.free 1
  have f2 := HB.free 2
  have f3 := HB.free 3
  go_wp2_with ((go_at_call 60; (with_reducible refine (Calls.ext (rmayS_is _ _ _ _ _ _ hS _)).mono ?_); rintro _ _ ⟨rfl, _, rfl⟩))
  refine bodyPost_ret (v := .tuple #[.agg #[.int .u8 0, .int .u32 0, .int .u8 0, .int .i64 0], .int .i64 8]) (by simp [results, Try.results34, go_sem, i0, i1, i2, i3]) rfl ⟨rfl, ?_⟩
  exact ((((ext_below B _).setCell (by simp) _).setCell (by simp) _).setCell (by simp) _).setCell (by simp) _

set_option maxRecDepth 100000 in
set_option maxHeartbeats 1000000 in
theorem rat_low (l c n k m j : Int) (w : World) (hS : mayS l n k m = true) (h : j < 0) :
    Calls Try.prog 34 #[.agg #[.int .u8 l, .int .u32 c, .int .u8 n, .int .i64 k, .int .i64 m], .int .i64 j] w fun e w' => e = .returned (.tuple #[.agg #[.int .u8 0, .int .u32 0, .int .u8 0, .int .i64 0], .int .i64 2]) ∧ Below w.heap.size w w' := by
  have z := decide_eq_true h
  go_enter Try.func34, Try.ntmps34
  go_wp2_with fail
  obtain ⟨B, HA, HB⟩ := boxI2 w #[.int .u8 l, .int .u32 c, .int .u8 n, .int .i64 k, .int .i64 m] #[.int .u8 0, .int .u32 0, .int .u8 0, .int .i64 0] 44 40 _ rfl
  generalize (World.alloc (World.alloc w _) _) = W at B HA HB ⊢
  obtain ⟨x, hx'⟩ := ext_at W
  rw [hx']; clear hx'
  have s0 := HA.at 0 rfl
  have s1 := HA.at 1 rfl
  have s2 := HA.at 2 rfl
  have s3 := HA.at 3 rfl
  have s4 := HA.at 4 rfl
  have i0 := HB.at 0 rfl
  have i1 := HB.at 1 rfl
  have i2 := HB.at 2 rfl
  have i3 := HB.at 3 rfl
  have f0 := HB.free 0
  have f1 := HB.free 1
  have f2 := HB.free 2
  have f3 := HB.free 3
  go_wp2_with ((go_at_call 60; (with_reducible refine (Calls.ext (rmayS_is _ _ _ _ _ _ hS _)).mono ?_); rintro _ _ ⟨rfl, _, rfl⟩))
  refine bodyPost_ret (v := .tuple #[.agg #[.int .u8 0, .int .u32 0, .int .u8 0, .int .i64 0], .int .i64 2]) (by simp [results, Try.results34, go_sem, i0, i1, i2, i3]) rfl ⟨rfl, ?_⟩
  exact ((((ext_below B _).setCell (by simp) _).setCell (by simp) _).setCell (by simp) _).setCell (by simp) _

set_option maxRecDepth 100000 in
set_option maxHeartbeats 1000000 in
theorem rat_high (l c n k m j : Int) (w : World) (hS : mayS l n k m = true) (h0 : 0 ≤ j) (h : m ≤ j) :
    Calls Try.prog 34 #[.agg #[.int .u8 l, .int .u32 c, .int .u8 n, .int .i64 k, .int .i64 m], .int .i64 j] w fun e w' => e = .returned (.tuple #[.agg #[.int .u8 0, .int .u32 0, .int .u8 0, .int .i64 0], .int .i64 2]) ∧ Below w.heap.size w w' := by
  have z := decide_eq_false (show ¬ (j < 0) by omega)
  have z2 := decide_eq_true h
  go_enter Try.func34, Try.ntmps34
  go_wp2_with fail
  obtain ⟨B, HA, HB⟩ := boxI2 w #[.int .u8 l, .int .u32 c, .int .u8 n, .int .i64 k, .int .i64 m] #[.int .u8 0, .int .u32 0, .int .u8 0, .int .i64 0] 44 40 _ rfl
  generalize (World.alloc (World.alloc w _) _) = W at B HA HB ⊢
  obtain ⟨x, hx'⟩ := ext_at W
  rw [hx']; clear hx'
  have s0 := HA.at 0 rfl
  have s1 := HA.at 1 rfl
  have s2 := HA.at 2 rfl
  have s3 := HA.at 3 rfl
  have s4 := HA.at 4 rfl
  have i0 := HB.at 0 rfl
  have i1 := HB.at 1 rfl
  have i2 := HB.at 2 rfl
  have i3 := HB.at 3 rfl
  have f0 := HB.free 0
  have f1 := HB.free 1
  have f2 := HB.free 2
  have f3 := HB.free 3
  go_wp2_with ((go_at_call 60; (with_reducible refine (Calls.ext (rmayS_is _ _ _ _ _ _ hS _)).mono ?_); rintro _ _ ⟨rfl, _, rfl⟩))
  refine bodyPost_ret (v := .tuple #[.agg #[.int .u8 0, .int .u32 0, .int .u8 0, .int .i64 0], .int .i64 2]) (by simp [results, Try.results34, go_sem, i0, i1, i2, i3]) rfl ⟨rfl, ?_⟩
  exact ((((ext_below B _).setCell (by simp) _).setCell (by simp) _).setCell (by simp) _).setCell (by simp) _

set_option maxRecDepth 100000 in
set_option maxHeartbeats 1000000 in
theorem rat_nat (l c n k : Int) (M J : Nat) (w : World) (hS : mayS l n k (M : Int) = true) (h : J < M) (hM : M ≤ 64) (hk1 : 1 ≤ k) (hk2 : k ≤ 1099511627776) :
    Calls Try.prog 34 #[.agg #[.int .u8 l, .int .u32 c, .int .u8 n, .int .i64 k, .int .i64 (M : Int)], .int .i64 (J : Int)] w fun e w' => e = .returned (.tuple #[.agg #[.int .u8 l, .int .u32 c, .int .u8 n, .int .i64 (k + (J : Int))], .int .i64 0]) ∧ Below w.heap.size w w' := by
  have z := decide_eq_false (show ¬ ((J : Int) < 0) by omega)
  have z2 : decide ((M : Int) ≤ (J : Int)) = false := decide_eq_false (by omega)
  have z3 : decide (M ≤ J) = false := decide_eq_false (by omega)
  have hJ0 : (0 : Int) ≤ (J : Int) := by omega
  have hJ1 : (J : Int) < (M : Int) := by omega
  go_enter Try.func34, Try.ntmps34
  go_wp2_with fail
  obtain ⟨B, HA, HB⟩ := boxI2 w #[.int .u8 l, .int .u32 c, .int .u8 n, .int .i64 k, .int .i64 (M : Int)] #[.int .u8 0, .int .u32 0, .int .u8 0, .int .i64 0] 44 40 _ rfl
  generalize (World.alloc (World.alloc w _) _) = W at B HA HB ⊢
  obtain ⟨x, hx'⟩ := ext_at W
  rw [hx']; clear hx'
  have s0 := HA.at 0 rfl
  have s1 := HA.at 1 rfl
  have s2 := HA.at 2 rfl
  have s3 := HA.at 3 rfl
  have s4 := HA.at 4 rfl
  have i0 := HB.at 0 rfl
  have i1 := HB.at 1 rfl
  have i2 := HB.at 2 rfl
  have i3 := HB.at 3 rfl
  have f0 := HB.free 0
  have f1 := HB.free 1
  have f2 := HB.free 2
  have f3 := HB.free 3
  go_wp2_with ((go_at_call 60; (with_reducible refine (Calls.ext (rmayS_is _ _ _ _ _ _ hS _)).mono ?_); rintro _ _ ⟨rfl, _, rfl⟩))
  (with_reducible refine (all_nat _ _ _ _ _ _ hk1 hk2 (by omega) hM).mono ?_); rintro _ wa ⟨g, cap, rfl, hA, b1, hg⟩
  replace b1 := below_next (Ext.below _) b1
  replace B := below_next B b1
  replace HB := HB.up b1
  clear s0 s1 s2 s3 s4 i0 i1 i2 i3 f0 f1 f2 f3 b1 hg
  obtain ⟨x, hx'⟩ := ext_at wa
  rw [hx']; clear hx'
  have i0 := HB.at 0 rfl
  have i1 := HB.at 1 rfl
  have i2 := HB.at 2 rfl
  have i3 := HB.at 3 rfl
  have f0 := HB.free 0
  have f1 := HB.free 1
  have f2 := HB.free 2
  have f3 := HB.free 3
  have e0 := hA.c0 J h
  have e1 := hA.c1 J h
  have e2 := hA.c2 J h
  have e3 := hA.c3 J h
  go_wp2
  refine bodyPost_ret (v := .tuple #[.agg #[.int .u8 l, .int .u32 c, .int .u8 n, .int .i64 (k + (J : Int))], .int .i64 0]) (by simp [results, Try.results34, go_sem, i0, i1, i2, i3]) rfl ⟨rfl, ?_⟩
  exact ((((ext_below B _).setCell (by simp) _).setCell (by simp) _).setCell (by simp) _).setCell (by simp) _

theorem rat_err (l c n k m j e0 : Int) (h : atE l n k m j = e0) (he : e0 ≠ 0) (w : World) :
    Calls Try.prog 34 #[.agg #[.int .u8 l, .int .u32 c, .int .u8 n, .int .i64 k, .int .i64 m], .int .i64 j] w fun e w' => e = .returned (.tuple #[.agg #[.int .u8 0, .int .u32 0, .int .u8 0, .int .i64 0], .int .i64 e0]) ∧ Below w.heap.size w w' := by
  subst h
  unfold atE at *
  cases hS : mayS l n k m
  · simp only [Bool.false_eq_true, if_false]; exact rat_bad l c n k m j w hS
  · rw [hS] at he
    simp only [if_true] at he ⊢
    by_cases h1 : 0 ≤ j ∧ j < m
    · rw [if_pos h1] at he; exact absurd rfl he
    · rw [if_neg h1]
      by_cases h2 : j < 0
      · exact rat_low l c n k m j w hS h2
      · exact rat_high l c n k m j w hS (by omega) (by omega)
theorem rat_ok (l c n k m j : Int) (h : atE l n k m j = 0) (w : World) :
    Calls Try.prog 34 #[.agg #[.int .u8 l, .int .u32 c, .int .u8 n, .int .i64 k, .int .i64 m], .int .i64 j] w fun e w' => e = .returned (.tuple #[.agg #[.int .u8 l, .int .u32 c, .int .u8 n, .int .i64 (k + j)], .int .i64 0]) ∧ Below w.heap.size w w' := by
  unfold atE at h
  split at h
  · rename_i hS
    split at h
    · have hs := (mayS_iff l n k m).1 hS
      obtain ⟨M, rfl⟩ := Int.eq_ofNat_of_zero_le (show 0 ≤ m by omega)
      obtain ⟨J, rfl⟩ := Int.eq_ofNat_of_zero_le (show 0 ≤ j by omega)
      exact rat_nat l c n k M J w hS (by omega) (by omega) (by omega) (by omega)
    · omega
  · omega

/-- What Has of the reference answers. -/
def HasPost (M : Nat) (E : Nat → Bool) (e : Ending) : Prop :=
  (∃ J : Nat, J < M ∧ E J = true ∧ e = .returned (.tuple #[.int .i64 (J : Int), .bool true])) ∨ ((∀ i, i < M → E i = false) ∧ e = .returned (.tuple #[.int .i64 0, .bool false]))

set_option maxRecDepth 100000 in
set_option maxHeartbeats 1000000 in
theorem rhas_bad (l c n k m l2 c2 n2 k2 : Int) (w : World) (hS : mayS l n k m = false) :
    Calls Try.prog 32 #[.agg #[.int .u8 l, .int .u32 c, .int .u8 n, .int .i64 k, .int .i64 m], .agg #[.int .u8 l2, .int .u32 c2, .int .u8 n2, .int .i64 k2]] w fun e w' => e = .returned (.tuple #[.int .i64 0, .bool false]) ∧ Below w.heap.size w w' := by
  go_enter Try.func32, Try.ntmps32
  go_wp2_with fail
  obtain ⟨B, HA, HB⟩ := boxI2 w #[.int .u8 l, .int .u32 c, .int .u8 n, .int .i64 k, .int .i64 m] #[.int .u8 l2, .int .u32 c2, .int .u8 n2, .int .i64 k2] 44 40 _ rfl
  generalize (World.alloc (World.alloc w _) _) = W at B HA HB ⊢
  obtain ⟨x, hx'⟩ := ext_at W
  rw [hx']; clear hx'
  go_wp2_with ((go_at_call 60; (with_reducible refine (Calls.ext (rmayS_is _ _ _ _ _ _ hS _)).mono ?_); rintro _ _ ⟨rfl, _, rfl⟩))
  go_ret2
  exact ⟨rfl, ext_below B _⟩

set_option maxRecDepth 100000 in
set_option maxHeartbeats 1000000 in
theorem rhas_nat (l c n k : Int) (M : Nat) (l2 c2 n2 k2 : Int) (w : World) (hS : mayS l n k (M : Int) = true) (h1 : 1 ≤ M) (hM : M ≤ 64) (hk1 : 1 ≤ k) (hk2 : k ≤ 1099511627776) :
    Calls Try.prog 32 #[.agg #[.int .u8 l, .int .u32 c, .int .u8 n, .int .i64 k, .int .i64 (M : Int)], .agg #[.int .u8 l2, .int .u32 c2, .int .u8 n2, .int .i64 k2]] w fun e w' => HasPost M (fun i => eqI l c n (k + (i : Int)) l2 c2 n2 k2) e ∧ Below w.heap.size w w' := by
  go_enter Try.func32, Try.ntmps32
  go_wp2_with fail
  obtain ⟨B, HA, HB⟩ := boxI2 w #[.int .u8 l, .int .u32 c, .int .u8 n, .int .i64 k, .int .i64 (M : Int)] #[.int .u8 l2, .int .u32 c2, .int .u8 n2, .int .i64 k2] 44 40 _ rfl
  generalize (World.alloc (World.alloc w _) _) = W at B HA HB ⊢
  obtain ⟨x, hx'⟩ := ext_at W
  rw [hx']; clear hx'
  have s0 := HA.at 0 rfl
  have s1 := HA.at 1 rfl
  have s2 := HA.at 2 rfl
  have s3 := HA.at 3 rfl
  have s4 := HA.at 4 rfl
  go_wp2_with ((go_at_call 60; (with_reducible refine (Calls.ext (rmayS_is _ _ _ _ _ _ hS _)).mono ?_); rintro _ _ ⟨rfl, _, rfl⟩))
  (with_reducible refine (all_nat _ _ _ _ _ _ hk1 hk2 h1 hM).mono ?_); rintro _ V ⟨g, cap, rfl, hA, b1, _⟩
  replace b1 := below_next (Ext.below _) b1
  replace B := below_next B b1
  replace HB := HB.up b1
  clear s0 s1 s2 s3 s4 b1 HA
  obtain ⟨x, hx'⟩ := ext_at V
  rw [hx']; clear hx'
  have d0 := HB.at 0 rfl
  have d1 := HB.at 1 rfl
  have d2 := HB.at 2 rfl
  have d3 := HB.at 3 rfl
  have hne := ext_ne V
  have hA' : Hid (AllAt V g l c n k M) := hid hA
  clear hA
  go_wp2_with fail
  go_loopw [7] (fun i wr => ∃ j : Nat, j ≤ M ∧ i = .int .i64 j ∧ Hid (∀ i, i < j → eqI l c n (k + (i : Int)) l2 c2 n2 k2 = false) ∧ ∃ x : Ext V, wr = x.at') (fun i _ => M - (intOf i).toNat)
  case atStart => exact ⟨0, by omega, rfl, hid (fun i hi => absurd hi (by omega)), x, rfl⟩
  case round =>
    obtain ⟨j, hj, rfl, hall, y, rfl⟩ := hrel
    by_cases hlt : j < M
    · have e0 := hA'.out.c0 j hlt
      have e1 := hA'.out.c1 j hlt
      have e2 := hA'.out.c2 j hlt
      have e3 := hA'.out.c3 j hlt
      have j0 : (0 : Int) ≤ (j : Int) := by omega
      have j1 : (j : Int) < (M : Int) := by omega
      cases hE : eqI l c n (k + (j : Int)) l2 c2 n2 k2
      · have q1 := run_eqI l c n (k + (j : Int)) l2 c2 n2 k2 false hE
        have HE := hid hE
        clear hE
        go_wp2_with fail
        refine wp_region_extW (by kernel_rfl) (by kernel_rfl) ?_
        repeat (go_big_quiet_step (fail))
        refine wpQuiet_nil ?_
        rintro _ ⟨xx, rfl⟩
        go_wp2
        go_roundw
        case rel => exact ⟨j + 1, by omega, by go_num, hid (fun i hi => (Nat.lt_succ_iff_lt_or_eq.1 hi).elim (hall.out i) (fun e => e ▸ HE.out)), xx, rfl⟩
        case measure => simp [intOf]; omega
      · have q1 := run_eqI l c n (k + (j : Int)) l2 c2 n2 k2 true hE
        have HE := hid hE
        clear hE
        go_wp2_with fail
        refine wp_region_extW (by kernel_rfl) (by kernel_rfl) ?_
        repeat (go_big_quiet_step (fail))
        refine wpQuiet_nil ?_
        rintro _ ⟨xx, rfl⟩
        go_wp2
        go_ret2
        exact ⟨.inl ⟨j, hlt, HE.out, rfl⟩, ext_below B _⟩
    · obtain rfl : j = M := by omega
      go_wp2
      go_ret2
      exact ⟨.inr ⟨hall.out, rfl⟩, ext_below B _⟩

theorem rhas_yes (l c n k m l2 c2 n2 k2 : Int) (hr : hasR l c n k m l2 c2 n2 k2 = true) (w : World) :
    Calls Try.prog 32 #[.agg #[.int .u8 l, .int .u32 c, .int .u8 n, .int .i64 k, .int .i64 m], .agg #[.int .u8 l2, .int .u32 c2, .int .u8 n2, .int .i64 k2]] w fun e w' => e = .returned (.tuple #[.int .i64 (k2 - k), .bool true]) ∧ Below w.heap.size w w' := by
  obtain ⟨hS, g1, g2, g3, g4, g5⟩ := (hasR_iff l c n k m l2 c2 n2 k2).1 hr
  have hs := (mayS_iff l n k m).1 hS
  obtain ⟨M, rfl⟩ := Int.eq_ofNat_of_zero_le (show 0 ≤ m by omega)
  refine (rhas_nat l c n k M l2 c2 n2 k2 w hS (by omega) (by omega) (by omega) (by omega)).mono ?_
  rintro e w' ⟨hp, hb⟩
  refine ⟨?_, hb⟩
  rcases hp with ⟨J, hJ, hE, rfl⟩ | ⟨hn, rfl⟩
  · have := (eqI_iff _ _ _ _ _ _ _ _).1 hE
    rw [show k2 - k = (J : Int) by omega]
  · have this : eqI l c n (k + ((k2 - k).toNat : Int)) l2 c2 n2 k2 = false := hn (k2 - k).toNat (by omega)
    rw [(eqI_iff _ _ _ _ _ _ _ _).2 ⟨g3.symm, g4.symm, g5.symm, by omega⟩] at this
    exact absurd this (by simp)
theorem rhas_no (l c n k m l2 c2 n2 k2 : Int) (hr : hasR l c n k m l2 c2 n2 k2 = false) (w : World) :
    Calls Try.prog 32 #[.agg #[.int .u8 l, .int .u32 c, .int .u8 n, .int .i64 k, .int .i64 m], .agg #[.int .u8 l2, .int .u32 c2, .int .u8 n2, .int .i64 k2]] w fun e w' => e = .returned (.tuple #[.int .i64 0, .bool false]) ∧ Below w.heap.size w w' := by
  cases hS : mayS l n k m
  · exact rhas_bad l c n k m l2 c2 n2 k2 w hS
  · have hs := (mayS_iff l n k m).1 hS
    obtain ⟨M, rfl⟩ := Int.eq_ofNat_of_zero_le (show 0 ≤ m by omega)
    refine (rhas_nat l c n k M l2 c2 n2 k2 w hS (by omega) (by omega) (by omega) (by omega)).mono ?_
    rintro e w' ⟨hp, hb⟩
    refine ⟨?_, hb⟩
    rcases hp with ⟨J, hJ, hE, rfl⟩ | ⟨hn, rfl⟩
    · have h := (eqI_iff _ _ _ _ _ _ _ _).1 hE
      rw [(hasR_iff _ _ _ _ _ _ _ _ _).2 ⟨hS, by omega, by omega, h.1.symm, h.2.1.symm, h.2.2.1.symm⟩] at hr
      exact absurd hr (by simp)
    · rfl

end Go.Proofs.Ytaloeaihnkkfeaa
