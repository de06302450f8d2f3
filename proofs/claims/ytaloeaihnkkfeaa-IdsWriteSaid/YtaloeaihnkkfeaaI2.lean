import Derived.Test.YtaloeaihnkkfeaaI1
import Derived.RegionTactic
import Derived.ChangeAlike
namespace Go.Proofs.Ytaloeaihnkkfeaa
open Go.RowKit

/-- Two ids held against each other. -/
def eqI (l c n k m d q j : Int) : Bool := eqL l c m d && (n == q && k == j)
theorem eqI_iff (l c n k m d q j : Int) : eqI l c n k m d q j = true ↔ l = m ∧ c = d ∧ n = q ∧ k = j := by simp [eqI, eqL, and_assoc]
theorem run_neI (l c n k m d q j : Int) (r : Bool) (h : eqI l c n k m d q j = r) : ∀ w, (binOp .neq 40 (.agg #[.int .u8 l, .int .u32 c, .int .u8 n, .int .i64 k]) (.agg #[.int .u8 m, .int .u32 d, .int .u8 q, .int .i64 j])).run Try.prog w = .ok (.bool (!r)) w := by
  subst h
  intro w
  unfold eqI eqL
  by_cases h1 : l = m
  · subst h1
    by_cases h2 : c = d
    · subst h2
      by_cases h3 : n = q
      · subst h3
        by_cases h4 : k = j
        · subst h4; simp [go_sem]
        · have h' : (k == j) = false := by simpa using h4
          simp [go_sem, h4]
      · have h' : (n == q) = false := by simpa using h3
        simp [go_sem, h']
    · have h' : (c == d) = false := by simpa using h2
      simp [go_sem, h']
  · have h' : (l == m) = false := by simpa using h1
    simp [go_sem, h']
theorem run_eqI (l c n k m d q j : Int) (r : Bool) (h : eqI l c n k m d q j = r) : ∀ w, (binOp .eql 40 (.agg #[.int .u8 l, .int .u32 c, .int .u8 n, .int .i64 k]) (.agg #[.int .u8 m, .int .u32 d, .int .u8 q, .int .i64 j])).run Try.prog w = .ok (.bool r) w := by
  subst h
  intro w
  unfold eqI eqL
  by_cases h1 : l = m
  · subst h1
    by_cases h2 : c = d
    · subst h2
      by_cases h3 : n = q
      · subst h3
        by_cases h4 : k = j
        · subst h4; simp [go_sem]
        · have h' : (k == j) = false := by simpa using h4
          simp [go_sem, h4]
      · have h' : (n == q) = false := by simpa using h3
        simp [go_sem, h']
    · have h' : (c == d) = false := by simpa using h2
      simp [go_sem, h']
  · have h' : (l == m) = false := by simpa using h1
    simp [go_sem, h']

abbrev I64 (k : Int) : Prop := -9223372036854775808 ≤ k ∧ k ≤ 9223372036854775807
def hasR (l c n k m l2 c2 n2 k2 : Int) : Bool := mayS l n k m && decide (0 ≤ k2 - k) && decide (k2 - k < m) && (eqL l2 c2 l c && n2 == n)
theorem hasR_iff (l c n k m l2 c2 n2 k2 : Int) : hasR l c n k m l2 c2 n2 k2 = true ↔ mayS l n k m = true ∧ 0 ≤ k2 - k ∧ k2 - k < m ∧ l2 = l ∧ c2 = c ∧ n2 = n := by
  simp [hasR, eqL, and_assoc]

theorem checkS_ok (l c n k m : Int) (h : mayS l n k m = true) (w : World) : Calls Try.prog 41 #[.agg #[.int .u8 l, .int .u32 c, .int .u8 n, .int .i64 k, .int .i64 m]] w fun e w' => e = .returned (.int .i64 0) ∧ Below w.heap.size w w' := checkS_is l c n k m true h w
theorem checkS_no (l c n k m : Int) (h : mayS l n k m = false) (w : World) : Calls Try.prog 41 #[.agg #[.int .u8 l, .int .u32 c, .int .u8 n, .int .i64 k, .int .i64 m]] w fun e w' => e = .returned (.int .i64 8) ∧ Below w.heap.size w w' := checkS_is l c n k m false h w

set_option maxRecDepth 100000 in
set_option maxHeartbeats 1000000 in
theorem has_bad (l c n k m l2 c2 n2 k2 : Int) (w : World) (hS : mayS l n k m = false) :
    Calls Try.prog 31 #[.agg #[.int .u8 l, .int .u32 c, .int .u8 n, .int .i64 k, .int .i64 m], .agg #[.int .u8 l2, .int .u32 c2, .int .u8 n2, .int .i64 k2]] w fun e w' => e = .returned (.tuple #[.int .i64 0, .bool false]) ∧ Below w.heap.size w w' := by
  go_enter Try.func31, Try.ntmps31
  go_wp2_with fail
  obtain ⟨B, HA, HB⟩ := boxI2 w #[.int .u8 l, .int .u32 c, .int .u8 n, .int .i64 k, .int .i64 m] #[.int .u8 l2, .int .u32 c2, .int .u8 n2, .int .i64 k2] 44 40 _ rfl
  generalize (World.alloc (World.alloc w _) _) = W at B HA HB ⊢
  obtain ⟨x, hx'⟩ := ext_at W
  rw [hx']; clear hx'
  have s0 := HA.at 0 rfl
  have s1 := HA.at 1 rfl
  have s2 := HA.at 2 rfl
  have s3 := HA.at 3 rfl
  have s4 := HA.at 4 rfl
  have i0 := HB.at 0 rfl
  have i1 := HB.at 1 rfl
  have i2 := HB.at 2 rfl
  have i3 := HB.at 3 rfl
  have hne := ext_ne W
  refine wp_region_extW (by kernel_rfl) (by kernel_rfl) ?_
  repeat (go_big_quiet_step (first | (go_at_call 41; with_reducible exact Calls.ext (checkS_no _ _ _ _ _ hS _))))
  refine wpQuiet_nil ?_
  rintro _ ⟨xx, rfl⟩
  go_wp2
  go_ret2
  exact ⟨rfl, ext_below B _⟩

set_option maxRecDepth 100000 in
set_option maxHeartbeats 1000000 in
theorem has_low (l c n k m l2 c2 n2 k2 : Int) (w : World) (hS : mayS l n k m = true) (_hk1 : 1 ≤ k) (_hk2 : k ≤ 1099511627776) (h1 : -9223372036854775808 ≤ k2 - k) (h2 : k2 - k < 0) :
    Calls Try.prog 31 #[.agg #[.int .u8 l, .int .u32 c, .int .u8 n, .int .i64 k, .int .i64 m], .agg #[.int .u8 l2, .int .u32 c2, .int .u8 n2, .int .i64 k2]] w fun e w' => e = .returned (.tuple #[.int .i64 0, .bool false]) ∧ Below w.heap.size w w' := by
  have z := decide_eq_true h2
  go_enter Try.func31, Try.ntmps31
  go_wp2_with fail
  obtain ⟨B, HA, HB⟩ := boxI2 w #[.int .u8 l, .int .u32 c, .int .u8 n, .int .i64 k, .int .i64 m] #[.int .u8 l2, .int .u32 c2, .int .u8 n2, .int .i64 k2] 44 40 _ rfl
  generalize (World.alloc (World.alloc w _) _) = W at B HA HB ⊢
  obtain ⟨x, hx'⟩ := ext_at W
  rw [hx']; clear hx'
  have s0 := HA.at 0 rfl
  have s1 := HA.at 1 rfl
  have s2 := HA.at 2 rfl
  have s3 := HA.at 3 rfl
  have s4 := HA.at 4 rfl
  have i0 := HB.at 0 rfl
  have i1 := HB.at 1 rfl
  have i2 := HB.at 2 rfl
  have i3 := HB.at 3 rfl
  have hne := ext_ne W
  refine wp_region_extW (by kernel_rfl) (by kernel_rfl) ?_
  repeat (go_big_quiet_step (first | (go_at_call 41; with_reducible exact Calls.ext (checkS_ok _ _ _ _ _ hS _))))
  refine wpQuiet_nil ?_
  rintro _ ⟨xx, rfl⟩
  go_wp2
  go_ret2
  exact ⟨rfl, ext_below B _⟩

set_option maxRecDepth 100000 in
set_option maxHeartbeats 1000000 in
theorem has_high (l c n k m l2 c2 n2 k2 : Int) (w : World) (hS : mayS l n k m = true) (hk1 : 1 ≤ k) (hk2 : k ≤ 1099511627776) (h0 : k2 ≤ 9223372036854775807) (hm : 1 ≤ m) (h1 : m ≤ k2 - k) :
    Calls Try.prog 31 #[.agg #[.int .u8 l, .int .u32 c, .int .u8 n, .int .i64 k, .int .i64 m], .agg #[.int .u8 l2, .int .u32 c2, .int .u8 n2, .int .i64 k2]] w fun e w' => e = .returned (.tuple #[.int .i64 0, .bool false]) ∧ Below w.heap.size w w' := by
  have z := decide_eq_true h1
  have z0 := decide_eq_false (show ¬ (k2 - k < 0) by omega)
  go_enter Try.func31, Try.ntmps31
  go_wp2_with fail
  obtain ⟨B, HA, HB⟩ := boxI2 w #[.int .u8 l, .int .u32 c, .int .u8 n, .int .i64 k, .int .i64 m] #[.int .u8 l2, .int .u32 c2, .int .u8 n2, .int .i64 k2] 44 40 _ rfl
  generalize (World.alloc (World.alloc w _) _) = W at B HA HB ⊢
  obtain ⟨x, hx'⟩ := ext_at W
  rw [hx']; clear hx'
  have s0 := HA.at 0 rfl
  have s1 := HA.at 1 rfl
  have s2 := HA.at 2 rfl
  have s3 := HA.at 3 rfl
  have s4 := HA.at 4 rfl
  have i0 := HB.at 0 rfl
  have i1 := HB.at 1 rfl
  have i2 := HB.at 2 rfl
  have i3 := HB.at 3 rfl
  have hne := ext_ne W
  refine wp_region_extW (by kernel_rfl) (by kernel_rfl) ?_
  repeat (go_big_quiet_step (first | (go_at_call 41; with_reducible exact Calls.ext (checkS_ok _ _ _ _ _ hS _))))
  refine wpQuiet_nil ?_
  rintro _ ⟨xx, rfl⟩
  go_wp2
  go_ret2
  exact ⟨rfl, ext_below B _⟩

set_option maxRecDepth 100000 in
set_option maxHeartbeats 1000000 in
theorem has_wrap (l c n k m l2 c2 n2 k2 : Int) (w : World) (hS : mayS l n k m = true) (hW0 : decide (wrap64 (k2 - k) < 0) = false) (hW1 : decide (m ≤ wrap64 (k2 - k)) = true) :
    Calls Try.prog 31 #[.agg #[.int .u8 l, .int .u32 c, .int .u8 n, .int .i64 k, .int .i64 m], .agg #[.int .u8 l2, .int .u32 c2, .int .u8 n2, .int .i64 k2]] w fun e w' => e = .returned (.tuple #[.int .i64 0, .bool false]) ∧ Below w.heap.size w w' := by
  go_enter Try.func31, Try.ntmps31
  go_wp2_with fail
  obtain ⟨B, HA, HB⟩ := boxI2 w #[.int .u8 l, .int .u32 c, .int .u8 n, .int .i64 k, .int .i64 m] #[.int .u8 l2, .int .u32 c2, .int .u8 n2, .int .i64 k2] 44 40 _ rfl
  generalize (World.alloc (World.alloc w _) _) = W at B HA HB ⊢
  obtain ⟨x, hx'⟩ := ext_at W
  rw [hx']; clear hx'
  have s0 := HA.at 0 rfl
  have s1 := HA.at 1 rfl
  have s2 := HA.at 2 rfl
  have s3 := HA.at 3 rfl
  have s4 := HA.at 4 rfl
  have i0 := HB.at 0 rfl
  have i1 := HB.at 1 rfl
  have i2 := HB.at 2 rfl
  have i3 := HB.at 3 rfl
  have hne := ext_ne W
  refine wp_region_extW (by kernel_rfl) (by kernel_rfl) ?_
  repeat (go_big_quiet_step (first | (go_at_call 41; with_reducible exact Calls.ext (checkS_ok _ _ _ _ _ hS _))))
  refine wpQuiet_nil ?_
  rintro _ ⟨xx, rfl⟩
  go_wp2
  go_ret2
  exact ⟨rfl, ext_below B _⟩

set_option maxRecDepth 100000 in
set_option maxHeartbeats 1000000 in
theorem has_other (l c n k m l2 c2 n2 k2 : Int) (w : World) (hS : mayS l n k m = true) (hk1 : 1 ≤ k) (hk2 : k ≤ 1099511627776) (hm : m ≤ 64) (h1 : 0 ≤ k2 - k) (h2 : k2 - k < m) (hE : eqI l2 c2 n2 k2 l c n (k + (k2 - k)) = false) :
    Calls Try.prog 31 #[.agg #[.int .u8 l, .int .u32 c, .int .u8 n, .int .i64 k, .int .i64 m], .agg #[.int .u8 l2, .int .u32 c2, .int .u8 n2, .int .i64 k2]] w fun e w' => e = .returned (.tuple #[.int .i64 0, .bool false]) ∧ Below w.heap.size w w' := by
  have z := decide_eq_false (show ¬ (k2 - k < 0) by omega)
  have z2 := decide_eq_false (show ¬ (m ≤ k2 - k) by omega)
  have e1 := run_neI l2 c2 n2 k2 l c n (k + (k2 - k)) false hE
  clear hE
  go_enter Try.func31, Try.ntmps31
  go_wp2_with fail
  obtain ⟨B, HA, HB⟩ := boxI2 w #[.int .u8 l, .int .u32 c, .int .u8 n, .int .i64 k, .int .i64 m] #[.int .u8 l2, .int .u32 c2, .int .u8 n2, .int .i64 k2] 44 40 _ rfl
  generalize (World.alloc (World.alloc w _) _) = W at B HA HB ⊢
  obtain ⟨x, hx'⟩ := ext_at W
  rw [hx']; clear hx'
  have s0 := HA.at 0 rfl
  have s1 := HA.at 1 rfl
  have s2 := HA.at 2 rfl
  have s3 := HA.at 3 rfl
  have s4 := HA.at 4 rfl
  have i0 := HB.at 0 rfl
  have i1 := HB.at 1 rfl
  have i2 := HB.at 2 rfl
  have i3 := HB.at 3 rfl
  have hne := ext_ne W
  refine wp_region_extW (by kernel_rfl) (by kernel_rfl) ?_
  repeat (go_big_quiet_step (first | (go_at_call 41; with_reducible exact Calls.ext (checkS_ok _ _ _ _ _ hS _)) | (go_at_call 59; with_reducible exact Calls.ext (next_any _ _ _ _ _ _ (by omega) (by omega)))))
  refine wpQuiet_nil ?_
  rintro _ ⟨xx, rfl⟩
  go_wp2
  go_ret2
  exact ⟨rfl, ext_below B _⟩

set_option maxRecDepth 100000 in
set_option maxHeartbeats 1000000 in
theorem has_same (l c n k m l2 c2 n2 k2 : Int) (w : World) (hS : mayS l n k m = true) (hk1 : 1 ≤ k) (hk2 : k ≤ 1099511627776) (hm : m ≤ 64) (h1 : 0 ≤ k2 - k) (h2 : k2 - k < m) (hE : eqI l2 c2 n2 k2 l c n (k + (k2 - k)) = true) :
    Calls Try.prog 31 #[.agg #[.int .u8 l, .int .u32 c, .int .u8 n, .int .i64 k, .int .i64 m], .agg #[.int .u8 l2, .int .u32 c2, .int .u8 n2, .int .i64 k2]] w fun e w' => e = .returned (.tuple #[.int .i64 (k2 - k), .bool true]) ∧ Below w.heap.size w w' := by
  have z := decide_eq_false (show ¬ (k2 - k < 0) by omega)
  have z2 := decide_eq_false (show ¬ (m ≤ k2 - k) by omega)
  have e1 := run_neI l2 c2 n2 k2 l c n (k + (k2 - k)) true hE
  clear hE
  go_enter Try.func31, Try.ntmps31
  go_wp2_with fail
  obtain ⟨B, HA, HB⟩ := boxI2 w #[.int .u8 l, .int .u32 c, .int .u8 n, .int .i64 k, .int .i64 m] #[.int .u8 l2, .int .u32 c2, .int .u8 n2, .int .i64 k2] 44 40 _ rfl
  generalize (World.alloc (World.alloc w _) _) = W at B HA HB ⊢
  obtain ⟨x, hx'⟩ := ext_at W
  rw [hx']; clear hx'
  have s0 := HA.at 0 rfl
  have s1 := HA.at 1 rfl
  have s2 := HA.at 2 rfl
  have s3 := HA.at 3 rfl
  have s4 := HA.at 4 rfl
  have i0 := HB.at 0 rfl
  have i1 := HB.at 1 rfl
  have i2 := HB.at 2 rfl
  have i3 := HB.at 3 rfl
  have hne := ext_ne W
  refine wp_region_extW (by kernel_rfl) (by kernel_rfl) ?_
  repeat (go_big_quiet_step (first | (go_at_call 41; with_reducible exact Calls.ext (checkS_ok _ _ _ _ _ hS _)) | (go_at_call 59; with_reducible exact Calls.ext (next_any _ _ _ _ _ _ (by omega) (by omega)))))
  refine wpQuiet_nil ?_
  rintro _ ⟨xx, rfl⟩
  go_wp2
  go_ret2
  exact ⟨rfl, ext_below B _⟩

theorem hasI_no (l c n k m l2 c2 n2 k2 : Int) (bk : I64 k2) (hr : hasR l c n k m l2 c2 n2 k2 = false) (w : World) :
    Calls Try.prog 31 #[.agg #[.int .u8 l, .int .u32 c, .int .u8 n, .int .i64 k, .int .i64 m], .agg #[.int .u8 l2, .int .u32 c2, .int .u8 n2, .int .i64 k2]] w fun e w' => e = .returned (.tuple #[.int .i64 0, .bool false]) ∧ Below w.heap.size w w' := by
  obtain ⟨bk1, bk2⟩ := bk
  cases hS : mayS l n k m
  · exact has_bad l c n k m l2 c2 n2 k2 w hS
  · have hs := (mayS_iff l n k m).1 hS
    by_cases h0 : -9223372036854775808 ≤ k2 - k
    · by_cases h1 : k2 - k < 0
      · exact has_low l c n k m l2 c2 n2 k2 w hS (by omega) (by omega) h0 h1
      · by_cases h2 : m ≤ k2 - k
        · exact has_high l c n k m l2 c2 n2 k2 w hS (by omega) (by omega) bk2 (by omega) h2
        · refine has_other l c n k m l2 c2 n2 k2 w hS (by omega) (by omega) (by omega) (by omega) (by omega) (Bool.eq_false_iff.2 fun h => ?_)
          rw [eqI_iff] at h
          exact absurd ((hasR_iff l c n k m l2 c2 n2 k2).2 ⟨hS, by omega, by omega, h.1, h.2.1, h.2.2.1⟩) (by rw [hr]; simp)
    · refine has_wrap l c n k m l2 c2 n2 k2 w hS (decide_eq_false ?_) (decide_eq_true ?_)
      · unfold wrap64; omega
      · unfold wrap64; omega
theorem hasI_yes (l c n k m l2 c2 n2 k2 : Int) (hr : hasR l c n k m l2 c2 n2 k2 = true) (w : World) :
    Calls Try.prog 31 #[.agg #[.int .u8 l, .int .u32 c, .int .u8 n, .int .i64 k, .int .i64 m], .agg #[.int .u8 l2, .int .u32 c2, .int .u8 n2, .int .i64 k2]] w fun e w' => e = .returned (.tuple #[.int .i64 (k2 - k), .bool true]) ∧ Below w.heap.size w w' := by
  obtain ⟨hS, h1, h2, h3, h4, h5⟩ := (hasR_iff l c n k m l2 c2 n2 k2).1 hr
  have hs := (mayS_iff l n k m).1 hS
  exact has_same l c n k m l2 c2 n2 k2 w hS (by omega) (by omega) (by omega) h1 h2 ((eqI_iff _ _ _ _ _ _ _ _).2 ⟨h3, h4, h5, by omega⟩)

set_option maxRecDepth 100000 in
set_option maxHeartbeats 1000000 in
theorem at_bad (l c n k m j : Int) (w : World) (hS : mayS l n k m = false) :
    Calls Try.prog 33 #[.agg #[.int .u8 l, .int .u32 c, .int .u8 n, .int .i64 k, .int .i64 m], .int .i64 j] w fun e w' => e = .returned (.tuple #[.agg #[.int .u8 0, .int .u32 0, .int .u8 0, .int .i64 0], .int .i64 8]) ∧ Below w.heap.size w w' := by
  go_enter Try.func33, Try.ntmps33
  go_wp2_with fail
  obtain ⟨B, HA, HB⟩ := boxI2 w #[.int .u8 l, .int .u32 c, .int .u8 n, .int .i64 k, .int .i64 m] #[.int .u8 0, .int .u32 0, .int .u8 0, .int .i64 0] 44 40 _ rfl
  generalize (World.alloc (World.alloc w _) _) = W at B HA HB ⊢
  obtain ⟨x, hx'⟩ := ext_at W
  rw [hx']; clear hx'
  have s0 := HA.at 0 rfl
  have s1 := HA.at 1 rfl
  have s2 := HA.at 2 rfl
  have s3 := HA.at 3 rfl
  have s4 := HA.at 4 rfl
  have i0 := HB.at 0 rfl
  have i1 := HB.at 1 rfl
  have i2 := HB.at 2 rfl
  have i3 := HB.at 3 rfl
  have f0 := HB.free 0
  have f1 := HB.free 1
  have f2 := HB.free 2
  have f3 := HB.free 3
  go_wp2_with ((go_at_call 41; (with_reducible refine (Calls.ext (checkS_no _ _ _ _ _ hS _)).mono ?_); rintro _ _ ⟨rfl, _, rfl⟩))
  refine bodyPost_ret (v := .tuple #[.agg #[.int .u8 0, .int .u32 0, .int .u8 0, .int .i64 0], .int .i64 8]) (by simp [results, Try.results33, go_sem, i0, i1, i2, i3]) rfl ⟨rfl, ?_⟩
  exact ((((ext_below B _).setCell (by simp) _).setCell (by simp) _).setCell (by simp) _).setCell (by simp) _

set_option maxRecDepth 100000 in
set_option maxHeartbeats 1000000 in
theorem at_low (l c n k m j : Int) (w : World) (hS : mayS l n k m = true) (h : j < 0) :
    Calls Try.prog 33 #[.agg #[.int .u8 l, .int .u32 c, .int .u8 n, .int .i64 k, .int .i64 m], .int .i64 j] w fun e w' => e = .returned (.tuple #[.agg #[.int .u8 0, .int .u32 0, .int .u8 0, .int .i64 0], .int .i64 2]) ∧ Below w.heap.size w w' := by
  have z := decide_eq_true h
  go_enter Try.func33, Try.ntmps33
  go_wp2_with fail
  obtain ⟨B, HA, HB⟩ := boxI2 w #[.int .u8 l, .int .u32 c, .int .u8 n, .int .i64 k, .int .i64 m] #[.int .u8 0, .int .u32 0, .int .u8 0, .int .i64 0] 44 40 _ rfl
  generalize (World.alloc (World.alloc w _) _) = W at B HA HB ⊢
  obtain ⟨x, hx'⟩ := ext_at W
  rw [hx']; clear hx'
  have s0 := HA.at 0 rfl
  have s1 := HA.at 1 rfl
  have s2 := HA.at 2 rfl
  have s3 := HA.at 3 rfl
  have s4 := HA.at 4 rfl
  have i0 := HB.at 0 rfl
  have i1 := HB.at 1 rfl
  have i2 := HB.at 2 rfl
  have i3 := HB.at 3 rfl
  have f0 := HB.free 0
  have f1 := HB.free 1
  have f2 := HB.free 2
  have f3 := HB.free 3
  go_wp2_with ((go_at_call 41; (with_reducible refine (Calls.ext (checkS_ok _ _ _ _ _ hS _)).mono ?_); rintro _ _ ⟨rfl, _, rfl⟩))
  refine bodyPost_ret (v := .tuple #[.agg #[.int .u8 0, .int .u32 0, .int .u8 0, .int .i64 0], .int .i64 2]) (by simp [results, Try.results33, go_sem, i0, i1, i2, i3]) rfl ⟨rfl, ?_⟩
  exact ((((ext_below B _).setCell (by simp) _).setCell (by simp) _).setCell (by simp) _).setCell (by simp) _

set_option maxRecDepth 100000 in
set_option maxHeartbeats 1000000 in
theorem at_high (l c n k m j : Int) (w : World) (hS : mayS l n k m = true) (h0 : 0 ≤ j) (h : m ≤ j) :
    Calls Try.prog 33 #[.agg #[.int .u8 l, .int .u32 c, .int .u8 n, .int .i64 k, .int .i64 m], .int .i64 j] w fun e w' => e = .returned (.tuple #[.agg #[.int .u8 0, .int .u32 0, .int .u8 0, .int .i64 0], .int .i64 2]) ∧ Below w.heap.size w w' := by
  have z := decide_eq_false (show ¬ (j < 0) by omega)
  have z2 := decide_eq_true h
  go_enter Try.func33, Try.ntmps33
  go_wp2_with fail
  obtain ⟨B, HA, HB⟩ := boxI2 w #[.int .u8 l, .int .u32 c, .int .u8 n, .int .i64 k, .int .i64 m] #[.int .u8 0, .int .u32 0, .int .u8 0, .int .i64 0] 44 40 _ rfl
  generalize (World.alloc (World.alloc w _) _) = W at B HA HB ⊢
  obtain ⟨x, hx'⟩ := ext_at W
  rw [hx']; clear hx'
  have s0 := HA.at 0 rfl
  have s1 := HA.at 1 rfl
  have s2 := HA.at 2 rfl
  have s3 := HA.at 3 rfl
  have s4 := HA.at 4 rfl
  have i0 := HB.at 0 rfl
  have i1 := HB.at 1 rfl
  have i2 := HB.at 2 rfl
  have i3 := HB.at 3 rfl
  have f0 := HB.free 0
  have f1 := HB.free 1
  have f2 := HB.free 2
  have f3 := HB.free 3
  go_wp2_with ((go_at_call 41; (with_reducible refine (Calls.ext (checkS_ok _ _ _ _ _ hS _)).mono ?_); rintro _ _ ⟨rfl, _, rfl⟩))
  refine bodyPost_ret (v := .tuple #[.agg #[.int .u8 0, .int .u32 0, .int .u8 0, .int .i64 0], .int .i64 2]) (by simp [results, Try.results33, go_sem, i0, i1, i2, i3]) rfl ⟨rfl, ?_⟩
  exact ((((ext_below B _).setCell (by simp) _).setCell (by simp) _).setCell (by simp) _).setCell (by simp) _

set_option maxRecDepth 100000 in
set_option maxHeartbeats 1000000 in
theorem at_in (l c n k m j : Int) (w : World) (hS : mayS l n k m = true) (h0 : 0 ≤ j) (h : j < m) (hm : m ≤ 64) (hk1 : 1 ≤ k) (hk2 : k ≤ 1099511627776) :
    Calls Try.prog 33 #[.agg #[.int .u8 l, .int .u32 c, .int .u8 n, .int .i64 k, .int .i64 m], .int .i64 j] w fun e w' => e = .returned (.tuple #[.agg #[.int .u8 l, .int .u32 c, .int .u8 n, .int .i64 (k + j)], .int .i64 0]) ∧ Below w.heap.size w w' := by
  have z := decide_eq_false (show ¬ (j < 0) by omega)
  have z2 := decide_eq_false (show ¬ (m ≤ j) by omega)
  go_enter Try.func33, Try.ntmps33
  go_wp2_with fail
  obtain ⟨B, HA, HB⟩ := boxI2 w #[.int .u8 l, .int .u32 c, .int .u8 n, .int .i64 k, .int .i64 m] #[.int .u8 0, .int .u32 0, .int .u8 0, .int .i64 0] 44 40 _ rfl
  generalize (World.alloc (World.alloc w _) _) = W at B HA HB ⊢
  obtain ⟨x, hx'⟩ := ext_at W
  rw [hx']; clear hx'
  have s0 := HA.at 0 rfl
  have s1 := HA.at 1 rfl
  have s2 := HA.at 2 rfl
  have s3 := HA.at 3 rfl
  have s4 := HA.at 4 rfl
  have i0 := HB.at 0 rfl
  have i1 := HB.at 1 rfl
  have i2 := HB.at 2 rfl
  have i3 := HB.at 3 rfl
  have f0 := HB.free 0
  have f1 := HB.free 1
  have f2 := HB.free 2
  have f3 := HB.free 3
  go_wp2_with (first | (go_at_call 41; (with_reducible refine (Calls.ext (checkS_ok _ _ _ _ _ hS _)).mono ?_); rintro _ _ ⟨rfl, _, rfl⟩) | (go_at_call 59; (with_reducible refine (Calls.ext (next_any _ _ _ _ _ _ (by omega) (by omega))).mono ?_); rintro _ _ ⟨rfl, _, rfl⟩))
  refine bodyPost_ret (v := .tuple #[.agg #[.int .u8 l, .int .u32 c, .int .u8 n, .int .i64 (k + j)], .int .i64 0]) (by simp [results, Try.results33, go_sem, i0, i1, i2, i3]) rfl ⟨rfl, ?_⟩
  exact ((((ext_below B _).setCell (by simp) _).setCell (by simp) _).setCell (by simp) _).setCell (by simp) _

/-- At's error. -/
def atE (l n k m j : Int) : Int := if mayS l n k m then (if 0 ≤ j ∧ j < m then 0 else 2) else 8
theorem at_err (l c n k m j e0 : Int) (h : atE l n k m j = e0) (he : e0 ≠ 0) (w : World) :
    Calls Try.prog 33 #[.agg #[.int .u8 l, .int .u32 c, .int .u8 n, .int .i64 k, .int .i64 m], .int .i64 j] w fun e w' => e = .returned (.tuple #[.agg #[.int .u8 0, .int .u32 0, .int .u8 0, .int .i64 0], .int .i64 e0]) ∧ Below w.heap.size w w' := by
  subst h
  unfold atE at *
  cases hS : mayS l n k m
  · simp only [Bool.false_eq_true, if_false]; exact at_bad l c n k m j w hS
  · rw [hS] at he
    simp only [if_true] at he ⊢
    by_cases h1 : 0 ≤ j ∧ j < m
    · rw [if_pos h1] at he; exact absurd rfl he
    · rw [if_neg h1]
      by_cases h2 : j < 0
      · exact at_low l c n k m j w hS h2
      · exact at_high l c n k m j w hS (by omega) (by omega)
theorem at_ok (l c n k m j : Int) (h : atE l n k m j = 0) (w : World) :
    Calls Try.prog 33 #[.agg #[.int .u8 l, .int .u32 c, .int .u8 n, .int .i64 k, .int .i64 m], .int .i64 j] w fun e w' => e = .returned (.tuple #[.agg #[.int .u8 l, .int .u32 c, .int .u8 n, .int .i64 (k + j)], .int .i64 0]) ∧ Below w.heap.size w w' := by
  unfold atE at h
  split at h
  · rename_i hS
    split at h
    · have hs := (mayS_iff l n k m).1 hS
      exact at_in l c n k m j w hS (by omega) (by omega) (by omega) (by omega) (by omega)
    · omega
  · omega

end Go.Proofs.Ytaloeaihnkkfeaa
