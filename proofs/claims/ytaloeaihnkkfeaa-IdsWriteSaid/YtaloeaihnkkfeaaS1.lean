import Derived.Test.YtaloeaihnkkfeaaI3
import Derived.Test.YtaloeaihnkkfeaaW7
import Derived.Test.YtaloeaihnkkfeaaW8
namespace Go.Proofs.Ytaloeaihnkkfeaa
open Go.RowKit

theorem told_any (b : Bool) (w : World) : Calls Try.prog 63 #[.bool b] w fun e w' => e = .returned (.int .i64 (rt b)) ∧ Below w.heap.size w w' := by
  cases b
  · go_enter Try.func63, Try.ntmps63
    go_wp2
    go_ret
    exact ⟨rfl, Below.refl _ _⟩
  · go_enter Try.func63, Try.ntmps63
    go_wp2
    go_ret
    exact ⟨rfl, Below.refl _ _⟩

set_option maxRecDepth 100000 in
set_option maxHeartbeats 1000000 in
theorem rmayH_is (l c n : Int) (r : Bool) (hr : mayH l n = r) (w : World) : Calls Try.prog 65 #[.agg #[.int .u8 l, .int .u32 c, .int .u8 n]] w fun e w' => e = .returned (.bool r) ∧ Below w.heap.size w w' := by
  have HB := Blk.new w #[.int .u8 l, .int .u32 c, .int .u8 n] 38
  by_cases h1 : l ≤ 15
  · have k1 : mayB l = true := by simp [mayB]; omega
    by_cases h2 : n < 8
    · obtain rfl : r = true := by rw [← hr, mayH_iff]; omega
      clear hr
      go_enter Try.func65, Try.ntmps65
      go_wp2_with fail
      have B := below_alloc (Below.refl w.heap.size w) (.cells #[.int .u8 l, .int .u32 c, .int .u8 n] 38)
      generalize (World.alloc w _) = W at HB B ⊢
      obtain ⟨x, hx'⟩ := ext_at W
      rw [hx']; clear hx'
      have a2 := HB.at 2 rfl
      go_wp2_with ((go_at_call 56; (with_reducible refine (Calls.ext (may_is _ _ _ k1 _)).mono ?_); rintro _ _ ⟨rfl, _, rfl⟩))
      go_ret
      exact ⟨rfl, ext_below B _⟩
    · have z := decide_eq_false h2
      obtain rfl : r = false := by rw [← hr]; exact Bool.eq_false_iff.2 (fun h => by rw [mayH_iff] at h; omega)
      clear hr
      go_enter Try.func65, Try.ntmps65
      go_wp2_with fail
      have B := below_alloc (Below.refl w.heap.size w) (.cells #[.int .u8 l, .int .u32 c, .int .u8 n] 38)
      generalize (World.alloc w _) = W at HB B ⊢
      obtain ⟨x, hx'⟩ := ext_at W
      rw [hx']; clear hx'
      have a2 := HB.at 2 rfl
      go_wp2_with ((go_at_call 56; (with_reducible refine (Calls.ext (may_is _ _ _ k1 _)).mono ?_); rintro _ _ ⟨rfl, _, rfl⟩))
      go_ret
      exact ⟨rfl, ext_below B _⟩
  · have k1 : mayB l = false := by simp [mayB]; omega
    obtain rfl : r = false := by rw [← hr]; exact Bool.eq_false_iff.2 (fun h => by rw [mayH_iff] at h; omega)
    clear hr
    go_enter Try.func65, Try.ntmps65
    go_wp2_with fail
    have B := below_alloc (Below.refl w.heap.size w) (.cells #[.int .u8 l, .int .u32 c, .int .u8 n] 38)
    generalize (World.alloc w _) = W at HB B ⊢
    obtain ⟨x, hx'⟩ := ext_at W
    rw [hx']; clear hx'
    have a2 := HB.at 2 rfl
    go_wp2_with ((go_at_call 56; (with_reducible refine (Calls.ext (may_is _ _ _ k1 _)).mono ?_); rintro _ _ ⟨rfl, _, rfl⟩))
    go_ret
    exact ⟨rfl, ext_below B _⟩

set_option maxRecDepth 100000 in
set_option maxHeartbeats 1000000 in
theorem rmayI_is (l c n k : Int) (r : Bool) (hr : mayI l n k = r) (w : World) : Calls Try.prog 64 #[.agg #[.int .u8 l, .int .u32 c, .int .u8 n, .int .i64 k]] w fun e w' => e = .returned (.bool r) ∧ Below w.heap.size w w' := by
  have HB := Blk.new w #[.int .u8 l, .int .u32 c, .int .u8 n, .int .i64 k] 40
  by_cases h1 : l ≤ 15 ∧ n < 8
  · have k1 : mayH l n = true := (mayH_iff l n).2 h1
    obtain ⟨g1, g2⟩ := h1
    by_cases h2 : 1 ≤ k
    · by_cases h3 : k ≤ 1099511627776
      · obtain rfl : r = true := by rw [← hr, mayI_iff]; omega
        clear hr
        go_enter Try.func64, Try.ntmps64
        go_wp2_with fail
        have B := below_alloc (Below.refl w.heap.size w) (.cells #[.int .u8 l, .int .u32 c, .int .u8 n, .int .i64 k] 40)
        generalize (World.alloc w _) = W at HB B ⊢
        obtain ⟨x, hx'⟩ := ext_at W
        rw [hx']; clear hx'
        have a3 := HB.at 3 rfl
        go_wp2_with ((go_at_call 65; (with_reducible refine (Calls.ext (rmayH_is _ _ _ _ k1 _)).mono ?_); rintro _ _ ⟨rfl, _, rfl⟩))
        go_ret
        exact ⟨rfl, ext_below B _⟩
      · have z := decide_eq_false h3
        obtain rfl : r = false := by rw [← hr]; exact Bool.eq_false_iff.2 (fun h => by rw [mayI_iff] at h; first | omega | exact h1.out ⟨h.1, h.2.1⟩)
        clear hr
        go_enter Try.func64, Try.ntmps64
        go_wp2_with fail
        have B := below_alloc (Below.refl w.heap.size w) (.cells #[.int .u8 l, .int .u32 c, .int .u8 n, .int .i64 k] 40)
        generalize (World.alloc w _) = W at HB B ⊢
        obtain ⟨x, hx'⟩ := ext_at W
        rw [hx']; clear hx'
        have a3 := HB.at 3 rfl
        go_wp2_with ((go_at_call 65; (with_reducible refine (Calls.ext (rmayH_is _ _ _ _ k1 _)).mono ?_); rintro _ _ ⟨rfl, _, rfl⟩))
        go_ret
        exact ⟨rfl, ext_below B _⟩
    · obtain rfl : r = false := by rw [← hr]; exact Bool.eq_false_iff.2 (fun h => by rw [mayI_iff] at h; first | omega | exact h1.out ⟨h.1, h.2.1⟩)
      clear hr
      go_enter Try.func64, Try.ntmps64
      go_wp2_with fail
      have B := below_alloc (Below.refl w.heap.size w) (.cells #[.int .u8 l, .int .u32 c, .int .u8 n, .int .i64 k] 40)
      generalize (World.alloc w _) = W at HB B ⊢
      obtain ⟨x, hx'⟩ := ext_at W
      rw [hx']; clear hx'
      have a3 := HB.at 3 rfl
      go_wp2_with ((go_at_call 65; (with_reducible refine (Calls.ext (rmayH_is _ _ _ _ k1 _)).mono ?_); rintro _ _ ⟨rfl, _, rfl⟩))
      go_ret
      exact ⟨rfl, ext_below B _⟩
  · have k1 : mayH l n = false := Bool.eq_false_iff.2 (fun h => h1 ((mayH_iff l n).1 h))
    replace h1 : Hid (¬ (l ≤ 15 ∧ n < 8)) := h1
    obtain rfl : r = false := by rw [← hr]; exact Bool.eq_false_iff.2 (fun h => by rw [mayI_iff] at h; first | omega | exact h1.out ⟨h.1, h.2.1⟩)
    clear hr
    go_enter Try.func64, Try.ntmps64
    go_wp2_with fail
    have B := below_alloc (Below.refl w.heap.size w) (.cells #[.int .u8 l, .int .u32 c, .int .u8 n, .int .i64 k] 40)
    generalize (World.alloc w _) = W at HB B ⊢
    obtain ⟨x, hx'⟩ := ext_at W
    rw [hx']; clear hx'
    have a3 := HB.at 3 rfl
    go_wp2_with ((go_at_call 65; (with_reducible refine (Calls.ext (rmayH_is _ _ _ _ k1 _)).mono ?_); rintro _ _ ⟨rfl, _, rfl⟩))
    go_ret
    exact ⟨rfl, ext_below B _⟩

set_option maxRecDepth 100000 in
set_option maxHeartbeats 1000000 in
theorem rmayS_is (l c n k m : Int) (r : Bool) (hr : mayS l n k m = r) (w : World) : Calls Try.prog 60 #[.agg #[.int .u8 l, .int .u32 c, .int .u8 n, .int .i64 k, .int .i64 m]] w fun e w' => e = .returned (.bool r) ∧ Below w.heap.size w w' := by
  have HB := Blk.new w #[.int .u8 l, .int .u32 c, .int .u8 n, .int .i64 k, .int .i64 m] 44
  by_cases h1 : l ≤ 15 ∧ n < 8 ∧ 1 ≤ k ∧ k ≤ 1099511627776
  · have k1 : mayI l n k = true := (mayI_iff l n k).2 h1
    obtain ⟨g1, g2, g3, g4⟩ := h1
    by_cases h2 : 1 ≤ m
    · by_cases h3 : m ≤ 64
      · by_cases h4 : k ≤ 1099511627777 - m
        · obtain rfl : r = true := by rw [← hr, mayS_iff]; omega
          clear hr
          go_enter Try.func60, Try.ntmps60
          go_wp2_with fail
          have B := below_alloc (Below.refl w.heap.size w) (.cells #[.int .u8 l, .int .u32 c, .int .u8 n, .int .i64 k, .int .i64 m] 44)
          generalize (World.alloc w _) = W at HB B ⊢
          obtain ⟨x, hx'⟩ := ext_at W
          rw [hx']; clear hx'
          have a3 := HB.at 3 rfl
          have a4 := HB.at 4 rfl
          go_wp2_with ((go_at_call 64; (with_reducible refine (Calls.ext (rmayI_is _ _ _ _ _ k1 _)).mono ?_); rintro _ _ ⟨rfl, _, rfl⟩))
          go_ret
          exact ⟨rfl, ext_below B _⟩
        · have z := decide_eq_false h4
          obtain rfl : r = false := by rw [← hr]; exact Bool.eq_false_iff.2 (fun h => by rw [mayS_iff] at h; first | omega | exact h1.out ⟨h.1, h.2.1, h.2.2.1, h.2.2.2.1⟩)
          clear hr
          go_enter Try.func60, Try.ntmps60
          go_wp2_with fail
          have B := below_alloc (Below.refl w.heap.size w) (.cells #[.int .u8 l, .int .u32 c, .int .u8 n, .int .i64 k, .int .i64 m] 44)
          generalize (World.alloc w _) = W at HB B ⊢
          obtain ⟨x, hx'⟩ := ext_at W
          rw [hx']; clear hx'
          have a3 := HB.at 3 rfl
          have a4 := HB.at 4 rfl
          go_wp2_with ((go_at_call 64; (with_reducible refine (Calls.ext (rmayI_is _ _ _ _ _ k1 _)).mono ?_); rintro _ _ ⟨rfl, _, rfl⟩))
          go_ret
          exact ⟨rfl, ext_below B _⟩
      · obtain rfl : r = false := by rw [← hr]; exact Bool.eq_false_iff.2 (fun h => by rw [mayS_iff] at h; first | omega | exact h1.out ⟨h.1, h.2.1, h.2.2.1, h.2.2.2.1⟩)
        clear hr
        go_enter Try.func60, Try.ntmps60
        go_wp2_with fail
        have B := below_alloc (Below.refl w.heap.size w) (.cells #[.int .u8 l, .int .u32 c, .int .u8 n, .int .i64 k, .int .i64 m] 44)
        generalize (World.alloc w _) = W at HB B ⊢
        obtain ⟨x, hx'⟩ := ext_at W
        rw [hx']; clear hx'
        have a3 := HB.at 3 rfl
        have a4 := HB.at 4 rfl
        go_wp2_with ((go_at_call 64; (with_reducible refine (Calls.ext (rmayI_is _ _ _ _ _ k1 _)).mono ?_); rintro _ _ ⟨rfl, _, rfl⟩))
        go_ret
        exact ⟨rfl, ext_below B _⟩
    · obtain rfl : r = false := by rw [← hr]; exact Bool.eq_false_iff.2 (fun h => by rw [mayS_iff] at h; first | omega | exact h1.out ⟨h.1, h.2.1, h.2.2.1, h.2.2.2.1⟩)
      clear hr
      go_enter Try.func60, Try.ntmps60
      go_wp2_with fail
      have B := below_alloc (Below.refl w.heap.size w) (.cells #[.int .u8 l, .int .u32 c, .int .u8 n, .int .i64 k, .int .i64 m] 44)
      generalize (World.alloc w _) = W at HB B ⊢
      obtain ⟨x, hx'⟩ := ext_at W
      rw [hx']; clear hx'
      have a3 := HB.at 3 rfl
      have a4 := HB.at 4 rfl
      go_wp2_with ((go_at_call 64; (with_reducible refine (Calls.ext (rmayI_is _ _ _ _ _ k1 _)).mono ?_); rintro _ _ ⟨rfl, _, rfl⟩))
      go_ret
      exact ⟨rfl, ext_below B _⟩
  · have k1 : mayI l n k = false := Bool.eq_false_iff.2 (fun h => h1 ((mayI_iff l n k).1 h))
    replace h1 : Hid (¬ (l ≤ 15 ∧ n < 8 ∧ 1 ≤ k ∧ k ≤ 1099511627776)) := h1
    obtain rfl : r = false := by rw [← hr]; exact Bool.eq_false_iff.2 (fun h => by rw [mayS_iff] at h; first | omega | exact h1.out ⟨h.1, h.2.1, h.2.2.1, h.2.2.2.1⟩)
    clear hr
    go_enter Try.func60, Try.ntmps60
    go_wp2_with fail
    have B := below_alloc (Below.refl w.heap.size w) (.cells #[.int .u8 l, .int .u32 c, .int .u8 n, .int .i64 k, .int .i64 m] 44)
    generalize (World.alloc w _) = W at HB B ⊢
    obtain ⟨x, hx'⟩ := ext_at W
    rw [hx']; clear hx'
    have a3 := HB.at 3 rfl
    have a4 := HB.at 4 rfl
    go_wp2_with ((go_at_call 64; (with_reducible refine (Calls.ext (rmayI_is _ _ _ _ _ k1 _)).mono ?_); rintro _ _ ⟨rfl, _, rfl⟩))
    go_ret
    exact ⟨rfl, ext_below B _⟩

set_option maxHeartbeats 400000 in
theorem rcheckH_is (l c n : Int) (r : Bool) (hr : mayH l n = r) (w : World) : Calls Try.prog 40 #[.agg #[.int .u8 l, .int .u32 c, .int .u8 n]] w fun e w' => e = .returned (.int .i64 (rt r)) ∧ Below w.heap.size w w' := by
  go_enter Try.func40, Try.ntmps40
  go_wp2_with fail
  have B := below_alloc (Below.refl w.heap.size w) (.cells #[.int .u8 l, .int .u32 c, .int .u8 n] 38)
  generalize (World.alloc w _) = W at B ⊢
  obtain ⟨x, hx'⟩ := ext_at W
  rw [hx']; clear hx'
  go_wp2_with (first | (go_at_call 65; (with_reducible refine (Calls.ext (rmayH_is _ _ _ _ hr _)).mono ?_); rintro _ _ ⟨rfl, _, rfl⟩) | (go_at_call 63; (with_reducible refine (Calls.ext (told_any _ _)).mono ?_); rintro _ _ ⟨rfl, _, rfl⟩))
  go_ret
  exact ⟨rfl, ext_below B _⟩

set_option maxHeartbeats 400000 in
theorem rcheckI_is (l c n k : Int) (r : Bool) (hr : mayI l n k = r) (w : World) : Calls Try.prog 38 #[.agg #[.int .u8 l, .int .u32 c, .int .u8 n, .int .i64 k]] w fun e w' => e = .returned (.int .i64 (rt r)) ∧ Below w.heap.size w w' := by
  go_enter Try.func38, Try.ntmps38
  go_wp2_with fail
  have B := below_alloc (Below.refl w.heap.size w) (.cells #[.int .u8 l, .int .u32 c, .int .u8 n, .int .i64 k] 40)
  generalize (World.alloc w _) = W at B ⊢
  obtain ⟨x, hx'⟩ := ext_at W
  rw [hx']; clear hx'
  go_wp2_with (first | (go_at_call 64; (with_reducible refine (Calls.ext (rmayI_is _ _ _ _ _ hr _)).mono ?_); rintro _ _ ⟨rfl, _, rfl⟩) | (go_at_call 63; (with_reducible refine (Calls.ext (told_any _ _)).mono ?_); rintro _ _ ⟨rfl, _, rfl⟩))
  go_ret
  exact ⟨rfl, ext_below B _⟩

set_option maxHeartbeats 400000 in
theorem rcheckS_is (l c n k m : Int) (r : Bool) (hr : mayS l n k m = r) (w : World) : Calls Try.prog 42 #[.agg #[.int .u8 l, .int .u32 c, .int .u8 n, .int .i64 k, .int .i64 m]] w fun e w' => e = .returned (.int .i64 (rt r)) ∧ Below w.heap.size w w' := by
  go_enter Try.func42, Try.ntmps42
  go_wp2_with fail
  have B := below_alloc (Below.refl w.heap.size w) (.cells #[.int .u8 l, .int .u32 c, .int .u8 n, .int .i64 k, .int .i64 m] 44)
  generalize (World.alloc w _) = W at B ⊢
  obtain ⟨x, hx'⟩ := ext_at W
  rw [hx']; clear hx'
  go_wp2_with (first | (go_at_call 60; (with_reducible refine (Calls.ext (rmayS_is _ _ _ _ _ _ hr _)).mono ?_); rintro _ _ ⟨rfl, _, rfl⟩) | (go_at_call 63; (with_reducible refine (Calls.ext (told_any _ _)).mono ?_); rintro _ _ ⟨rfl, _, rfl⟩))
  go_ret
  exact ⟨rfl, ext_below B _⟩

set_option maxRecDepth 100000 in
set_option maxHeartbeats 1000000 in
theorem rless_walk (l c n k m d q j : Int) (w : World) (bl : Hid (0 ≤ l ∧ l ≤ 255)) (bc : Hid (U32 c)) (bm : Hid (0 ≤ m ∧ m ≤ 255)) (bd : Hid (U32 d)) (u v r : Bool) (hu : aheadB l c m d = u) (hv : aheadB m d l c = v)
    (hcase : (k < j ∧ r = true) ∨ (j < k ∧ r = false) ∨ (k ≤ j ∧ j ≤ k ∧ u = true ∧ r = true) ∨ (k ≤ j ∧ j ≤ k ∧ u = false ∧ v = true ∧ r = false) ∨ (k ≤ j ∧ j ≤ k ∧ u = false ∧ v = false ∧ decide (n < q) = r)) :
    Calls Try.prog 43 #[.agg #[.int .u8 l, .int .u32 c, .int .u8 n, .int .i64 k], .agg #[.int .u8 m, .int .u32 d, .int .u8 q, .int .i64 j]] w fun e w' => e = .returned (.bool r) ∧ Below w.heap.size w w' := by
  rcases hcase with ⟨h1, rfl⟩ | ⟨h1, rfl⟩ | ⟨h1, h2, rfl, rfl⟩ | ⟨h1, h2, rfl, rfl, rfl⟩ | ⟨h1, h2, rfl, rfl, h3⟩
  · go_enter Try.func43, Try.ntmps43
    go_wp2_with fail
    go_ret
    exact ⟨rfl, below_alloc (below_alloc (Below.refl _ _) _) _⟩
  · go_enter Try.func43, Try.ntmps43
    go_wp2_with fail
    go_ret
    exact ⟨rfl, below_alloc (below_alloc (Below.refl _ _) _) _⟩
  all_goals
    go_enter Try.func43, Try.ntmps43
    go_wp2_with fail
    obtain ⟨B, HA, HB⟩ := boxI2 w #[.int .u8 l, .int .u32 c, .int .u8 n, .int .i64 k] #[.int .u8 m, .int .u32 d, .int .u8 q, .int .i64 j] 40 40 _ rfl
    generalize (World.alloc (World.alloc w _) _) = W at B HA HB ⊢
    obtain ⟨x, hx'⟩ := ext_at W
    rw [hx']; clear hx'
    have a0 := HA.at 0 rfl
    have a1 := HA.at 1 rfl
    have a2 := HA.at 2 rfl
    have b0 := HB.at 0 rfl
    have b1 := HB.at 1 rfl
    have b2 := HB.at 2 rfl
    go_wp2_with (first | (go_at_call 28; (with_reducible refine (Calls.ext (rahead_is l c m d _ bl.out bc.out bm.out bd.out hu _)).mono ?_); rintro _ _ ⟨rfl, _, rfl⟩) | (go_at_call 28; (with_reducible refine (Calls.ext (rahead_is m d l c _ bm.out bd.out bl.out bc.out hv _)).mono ?_); rintro _ _ ⟨rfl, _, rfl⟩))
    go_ret
    exact ⟨rfl, ext_below B _⟩

theorem rless_is (l c n k m d q j : Int) (bl : 0 ≤ l ∧ l ≤ 255) (bc : U32 c) (bm : 0 ≤ m ∧ m ≤ 255) (bd : U32 d) (r : Bool) (hr : lessB l c n k m d q j = r) (w : World) :
    Calls Try.prog 43 #[.agg #[.int .u8 l, .int .u32 c, .int .u8 n, .int .i64 k], .agg #[.int .u8 m, .int .u32 d, .int .u8 q, .int .i64 j]] w fun e w' => e = .returned (.bool r) ∧ Below w.heap.size w w' := by
  refine rless_walk l c n k m d q j w bl bc bm bd _ _ r rfl rfl ?_
  have h := lessB_iff l c n k m d q j
  have hu := ahead_iff l c m d
  have hv := ahead_iff m d l c
  rw [hr] at h
  generalize aheadB l c m d = u at *
  generalize aheadB m d l c = v at *
  clear hr bl bc bm bd
  by_cases h1 : k < j
  · exact .inl ⟨h1, h.2 (.inl h1)⟩
  · by_cases h2 : j < k
    · exact .inr (.inl ⟨h2, Bool.eq_false_iff.2 fun e => by have := h.1 e; omega⟩)
    · cases u
      · have hu' : ¬ _ := fun e => absurd (hu.2 e) (by simp)
        cases v
        · have hv' : ¬ _ := fun e => absurd (hv.2 e) (by simp)
          refine .inr (.inr (.inr (.inr ⟨by omega, by omega, rfl, rfl, ?_⟩)))
          rw [Bool.eq_iff_iff, decide_eq_true_eq]
          exact ⟨fun e => h.2 (by omega), fun e => by have := h.1 e; omega⟩
        · have hv' := hv.1 rfl
          exact .inr (.inr (.inr (.inl ⟨by omega, by omega, rfl, rfl, Bool.eq_false_iff.2 fun e => by have := h.1 e; omega⟩)))
      · have hu' := hu.1 rfl
        exact .inr (.inr (.inl ⟨by omega, by omega, rfl, h.2 (by omega)⟩))

end Go.Proofs.Ytaloeaihnkkfeaa
