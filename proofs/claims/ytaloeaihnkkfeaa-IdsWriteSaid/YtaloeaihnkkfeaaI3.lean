import Derived.Test.YtaloeaihnkkfeaaI2
import Derived.BigRegion
namespace Go.Proofs.Ytaloeaihnkkfeaa
open Go.RowKit

theorem boxI3 (w : World) (cs ds es : Array Value) (s t u : TypeId) : ∀ W, W = ((w.alloc (.cells cs s)).alloc (.cells ds t)).alloc (.cells es u) →
    Below w.heap.size w W ∧ Blk W w.heap.size cs s ∧ Blk W (w.heap.size + 1) ds t ∧ Blk W (w.heap.size + 1 + 1) es u := by
  rintro W rfl
  obtain ⟨B, H1, H2⟩ := boxI2 w cs ds s t _ rfl
  refine ⟨below_alloc B _, H1.alloc _, H2.alloc _, ?_⟩
  have := Blk.new ((w.alloc (.cells cs s)).alloc (.cells ds t)) es u
  simpa using this
/-- At W itself. -/
theorem Blk.here {W : World} {p : Nat} {cs : Array Value} {t : TypeId} (h : Blk W p cs t) (i : Nat) {v : Value} (hv : cs[i]? = some v) : W.cell? ⟨p, i, none⟩ = some v := h.at i hv ⟨W, Below.refl _ _⟩
theorem Blk.open {W : World} {p : Nat} {cs : Array Value} {t : TypeId} (h : Blk W p cs t) (i : Nat) : W.frozen? ⟨p, i, none⟩ = false := h.free i ⟨W, Below.refl _ _⟩
theorem Blk.lt' {W : World} {p : Nat} {cs : Array Value} {t : TypeId} (h : Blk W p cs t) : p < W.heap.size := h.lt ⟨W, Below.refl _ _⟩

set_option maxRecDepth 100000 in
set_option maxHeartbeats 400000 in
theorem cut_at (l c n k m j e0 : Int) (w : World) (h : atE l n k m j = e0) (he : e0 ≠ 0) :
    Calls Try.prog 35 #[.agg #[.int .u8 l, .int .u32 c, .int .u8 n, .int .i64 k, .int .i64 m], .int .i64 j] w fun e w' => e = .returned (.tuple #[.agg #[.int .u8 0, .int .u32 0, .int .u8 0, .int .i64 0, .int .i64 0], .agg #[.int .u8 0, .int .u32 0, .int .u8 0, .int .i64 0, .int .i64 0], .int .i64 e0]) ∧ Below w.heap.size w w' := by
  have he1 : (e0 == 0) = false := by simpa using he
  have he2 : (e0 != 0) = true := by simpa using he
  go_enter Try.func35, Try.ntmps35
  go_wp2_with fail
  obtain ⟨B, HA, HB, HC⟩ := boxI3 w #[.int .u8 l, .int .u32 c, .int .u8 n, .int .i64 k, .int .i64 m] #[.int .u8 0, .int .u32 0, .int .u8 0, .int .i64 0, .int .i64 0] #[.int .u8 0, .int .u32 0, .int .u8 0, .int .i64 0, .int .i64 0] 44 44 44 _ rfl
  generalize (World.alloc (World.alloc (World.alloc w _) _) _) = W at B HA HB HC ⊢
  have LC := HC.lt'
  obtain ⟨x, hx'⟩ := ext_at W
  rw [hx']; clear hx'
  (with_reducible refine (Calls.ext (at_err l c n k m j e0 h he _)).mono ?_); rintro _ _ ⟨rfl, z, rfl⟩
  go_upto_region 2 with (fail)
  have U := below_alloc z.below (.cells #[.int .u8 0, .int .u32 0, .int .u8 0, .int .i64 0] 40)
  replace B := below_alloc (ext_below B z) (.cells #[.int .u8 0, .int .u32 0, .int .u8 0, .int .i64 0] 40)
  have HD := Blk.new z.at' #[.int .u8 0, .int .u32 0, .int .u8 0, .int .i64 0] 40
  replace HA := HA.up U
  replace HB := HB.up U
  replace HC := HC.up U
  have lz := HD.lt'
  have lp : w.heap.size + 1 + 1 < z.at'.heap.size := by have := z.below.size; omega
  generalize hP : z.at'.heap.size = P at HD lz lp ⊢
  generalize (z.at'.alloc (.cells #[.int .u8 0, .int .u32 0, .int .u8 0, .int .i64 0] 40)) = W2 at B U HA HB HC HD lz ⊢
  clear hP U
  have s0 := HA.here 0 rfl
  have s1 := HA.here 1 rfl
  have s2 := HA.here 2 rfl
  have s3 := HA.here 3 rfl
  have s4 := HA.here 4 rfl
  have a0 := HB.here 0 rfl
  have a1 := HB.here 1 rfl
  have a2 := HB.here 2 rfl
  have a3 := HB.here 3 rfl
  have a4 := HB.here 4 rfl
  have b0 := HC.here 0 rfl
  have b1 := HC.here 1 rfl
  have b2 := HC.here 2 rfl
  have b3 := HC.here 3 rfl
  have b4 := HC.here 4 rfl
  have d0 := HD.here 0 rfl
  have d1 := HD.here 1 rfl
  have d2 := HD.here 2 rfl
  have d3 := HD.here 3 rfl
  have fa0 := HB.open 0
  have fa1 := HB.open 1
  have fa2 := HB.open 2
  have fa3 := HB.open 3
  have fa4 := HB.open 4
  have fb0 := HC.open 0
  have fb1 := HC.open 1
  have fb2 := HC.open 2
  have fb3 := HC.open 3
  have fb4 := HC.open 4
  clear HA HB HC HD
  have hB1 : w.heap.size ≤ w.heap.size + 1 := by omega
  have hB2 : w.heap.size ≤ w.heap.size + 1 + 1 := by omega
  go_wp2_with fail
  go_region
  go_wp2
  refine bodyPost_ret (v := .tuple #[.agg #[.int .u8 0, .int .u32 0, .int .u8 0, .int .i64 0, .int .i64 0], .agg #[.int .u8 0, .int .u32 0, .int .u8 0, .int .i64 0, .int .i64 0], .int .i64 e0]) (by simp [results, Try.results35, go_sem, a0, a1, a2, a3, a4, b0, b1, b2, b3, b4]) rfl ⟨rfl, ?_⟩
  repeat (first | with_reducible exact B | with_reducible refine Below.drew ?_ | with_reducible refine Below.setCell ?_ hB1 _ | with_reducible refine Below.setCell ?_ hB2 _)

set_option maxRecDepth 100000 in
set_option maxHeartbeats 400000 in
theorem cut_zero (l c n k m j : Int) (w : World) (h : atE l n k m j = 0) (hj : (j == 0) = true) :
    Calls Try.prog 35 #[.agg #[.int .u8 l, .int .u32 c, .int .u8 n, .int .i64 k, .int .i64 m], .int .i64 j] w fun e w' => e = .returned (.tuple #[.agg #[.int .u8 0, .int .u32 0, .int .u8 0, .int .i64 0, .int .i64 0], .agg #[.int .u8 0, .int .u32 0, .int .u8 0, .int .i64 0, .int .i64 0], .int .i64 2]) ∧ Below w.heap.size w w' := by
  go_enter Try.func35, Try.ntmps35
  go_wp2_with fail
  obtain ⟨B, HA, HB, HC⟩ := boxI3 w #[.int .u8 l, .int .u32 c, .int .u8 n, .int .i64 k, .int .i64 m] #[.int .u8 0, .int .u32 0, .int .u8 0, .int .i64 0, .int .i64 0] #[.int .u8 0, .int .u32 0, .int .u8 0, .int .i64 0, .int .i64 0] 44 44 44 _ rfl
  generalize (World.alloc (World.alloc (World.alloc w _) _) _) = W at B HA HB HC ⊢
  have LC := HC.lt'
  obtain ⟨x, hx'⟩ := ext_at W
  rw [hx']; clear hx'
  (with_reducible refine (Calls.ext (at_ok l c n k m j h _)).mono ?_); rintro _ _ ⟨rfl, z, rfl⟩
  go_upto_region 2 with (fail)
  have U := below_alloc z.below (.cells #[.int .u8 l, .int .u32 c, .int .u8 n, .int .i64 (k + j)] 40)
  replace B := below_alloc (ext_below B z) (.cells #[.int .u8 l, .int .u32 c, .int .u8 n, .int .i64 (k + j)] 40)
  have HD := Blk.new z.at' #[.int .u8 l, .int .u32 c, .int .u8 n, .int .i64 (k + j)] 40
  replace HA := HA.up U
  replace HB := HB.up U
  replace HC := HC.up U
  have lz := HD.lt'
  have lp : w.heap.size + 1 + 1 < z.at'.heap.size := by have := z.below.size; omega
  generalize hP : z.at'.heap.size = P at HD lz lp ⊢
  generalize (z.at'.alloc (.cells #[.int .u8 l, .int .u32 c, .int .u8 n, .int .i64 (k + j)] 40)) = W2 at B U HA HB HC HD lz ⊢
  clear hP U
  have s0 := HA.here 0 rfl
  have s1 := HA.here 1 rfl
  have s2 := HA.here 2 rfl
  have s3 := HA.here 3 rfl
  have s4 := HA.here 4 rfl
  have a0 := HB.here 0 rfl
  have a1 := HB.here 1 rfl
  have a2 := HB.here 2 rfl
  have a3 := HB.here 3 rfl
  have a4 := HB.here 4 rfl
  have b0 := HC.here 0 rfl
  have b1 := HC.here 1 rfl
  have b2 := HC.here 2 rfl
  have b3 := HC.here 3 rfl
  have b4 := HC.here 4 rfl
  have d0 := HD.here 0 rfl
  have d1 := HD.here 1 rfl
  have d2 := HD.here 2 rfl
  have d3 := HD.here 3 rfl
  have fa0 := HB.open 0
  have fa1 := HB.open 1
  have fa2 := HB.open 2
  have fa3 := HB.open 3
  have fa4 := HB.open 4
  have fb0 := HC.open 0
  have fb1 := HC.open 1
  have fb2 := HC.open 2
  have fb3 := HC.open 3
  have fb4 := HC.open 4
  clear HA HB HC HD
  have hB1 : w.heap.size ≤ w.heap.size + 1 := by omega
  have hB2 : w.heap.size ≤ w.heap.size + 1 + 1 := by omega
  go_wp2_with fail
  go_region
  go_wp2
  refine bodyPost_ret (v := .tuple #[.agg #[.int .u8 0, .int .u32 0, .int .u8 0, .int .i64 0, .int .i64 0], .agg #[.int .u8 0, .int .u32 0, .int .u8 0, .int .i64 0, .int .i64 0], .int .i64 2]) (by simp [results, Try.results35, go_sem, a0, a1, a2, a3, a4, b0, b1, b2, b3, b4]) rfl ⟨rfl, ?_⟩
  repeat (first | with_reducible exact B | with_reducible refine Below.drew ?_ | with_reducible refine Below.setCell ?_ hB1 _ | with_reducible refine Below.setCell ?_ hB2 _)

set_option maxRecDepth 100000 in
set_option maxHeartbeats 400000 in
theorem cut_in (l c n k m j : Int) (w : World) (h : atE l n k m j = 0) (h1 : 1 ≤ j) (h2 : j < m) (hm : m ≤ 64) :
    Calls Try.prog 35 #[.agg #[.int .u8 l, .int .u32 c, .int .u8 n, .int .i64 k, .int .i64 m], .int .i64 j] w fun e w' => e = .returned (.tuple #[.agg #[.int .u8 l, .int .u32 c, .int .u8 n, .int .i64 k, .int .i64 j], .agg #[.int .u8 l, .int .u32 c, .int .u8 n, .int .i64 (k + j), .int .i64 (m - j)], .int .i64 0]) ∧ Below w.heap.size w w' := by
  have z : (j == 0) = false := by simp; omega
  go_enter Try.func35, Try.ntmps35
  go_wp2_with fail
  obtain ⟨B, HA, HB, HC⟩ := boxI3 w #[.int .u8 l, .int .u32 c, .int .u8 n, .int .i64 k, .int .i64 m] #[.int .u8 0, .int .u32 0, .int .u8 0, .int .i64 0, .int .i64 0] #[.int .u8 0, .int .u32 0, .int .u8 0, .int .i64 0, .int .i64 0] 44 44 44 _ rfl
  generalize (World.alloc (World.alloc (World.alloc w _) _) _) = W at B HA HB HC ⊢
  have LC := HC.lt'
  obtain ⟨x, hx'⟩ := ext_at W
  rw [hx']; clear hx'
  (with_reducible refine (Calls.ext (at_ok l c n k m j h _)).mono ?_); rintro _ _ ⟨rfl, z, rfl⟩
  go_upto_region 2 with (fail)
  have U := below_alloc z.below (.cells #[.int .u8 l, .int .u32 c, .int .u8 n, .int .i64 (k + j)] 40)
  replace B := below_alloc (ext_below B z) (.cells #[.int .u8 l, .int .u32 c, .int .u8 n, .int .i64 (k + j)] 40)
  have HD := Blk.new z.at' #[.int .u8 l, .int .u32 c, .int .u8 n, .int .i64 (k + j)] 40
  replace HA := HA.up U
  replace HB := HB.up U
  replace HC := HC.up U
  have lz := HD.lt'
  have lp : w.heap.size + 1 + 1 < z.at'.heap.size := by have := z.below.size; omega
  generalize hP : z.at'.heap.size = P at HD lz lp ⊢
  generalize (z.at'.alloc (.cells #[.int .u8 l, .int .u32 c, .int .u8 n, .int .i64 (k + j)] 40)) = W2 at B U HA HB HC HD lz ⊢
  clear hP U
  have s0 := HA.here 0 rfl
  have s1 := HA.here 1 rfl
  have s2 := HA.here 2 rfl
  have s3 := HA.here 3 rfl
  have s4 := HA.here 4 rfl
  have a0 := HB.here 0 rfl
  have a1 := HB.here 1 rfl
  have a2 := HB.here 2 rfl
  have a3 := HB.here 3 rfl
  have a4 := HB.here 4 rfl
  have b0 := HC.here 0 rfl
  have b1 := HC.here 1 rfl
  have b2 := HC.here 2 rfl
  have b3 := HC.here 3 rfl
  have b4 := HC.here 4 rfl
  have d0 := HD.here 0 rfl
  have d1 := HD.here 1 rfl
  have d2 := HD.here 2 rfl
  have d3 := HD.here 3 rfl
  have fa0 := HB.open 0
  have fa1 := HB.open 1
  have fa2 := HB.open 2
  have fa3 := HB.open 3
  have fa4 := HB.open 4
  have fb0 := HC.open 0
  have fb1 := HC.open 1
  have fb2 := HC.open 2
  have fb3 := HC.open 3
  have fb4 := HC.open 4
  clear HA HB HC HD
  have hB1 : w.heap.size ≤ w.heap.size + 1 := by omega
  have hB2 : w.heap.size ≤ w.heap.size + 1 + 1 := by omega
  go_wp2_with fail
  go_region
  go_wp2
  refine bodyPost_ret (v := .tuple #[.agg #[.int .u8 l, .int .u32 c, .int .u8 n, .int .i64 k, .int .i64 j], .agg #[.int .u8 l, .int .u32 c, .int .u8 n, .int .i64 (k + j), .int .i64 (m - j)], .int .i64 0]) (by simp [results, Try.results35, go_sem, a0, a1, a2, a3, a4, b0, b1, b2, b3, b4]) rfl ⟨rfl, ?_⟩
  repeat (first | with_reducible exact B | with_reducible refine Below.drew ?_ | with_reducible refine Below.setCell ?_ hB1 _ | with_reducible refine Below.setCell ?_ hB2 _)

/-- Cut's error. -/
def cutE (l n k m j : Int) : Int := if mayS l n k m then (if 1 ≤ j ∧ j < m then 0 else 2) else 8
theorem cut_err (l c n k m j e0 : Int) (h : cutE l n k m j = e0) (he : e0 ≠ 0) (w : World) :
    Calls Try.prog 35 #[.agg #[.int .u8 l, .int .u32 c, .int .u8 n, .int .i64 k, .int .i64 m], .int .i64 j] w fun e w' => e = .returned (.tuple #[.agg #[.int .u8 0, .int .u32 0, .int .u8 0, .int .i64 0, .int .i64 0], .agg #[.int .u8 0, .int .u32 0, .int .u8 0, .int .i64 0, .int .i64 0], .int .i64 e0]) ∧ Below w.heap.size w w' := by
  cases hS : mayS l n k m
  · have : atE l n k m j = e0 := by rw [← h]; simp [atE, cutE, hS]
    exact cut_at l c n k m j e0 w this he
  · by_cases h0 : 0 ≤ j ∧ j < m
    · have h1 : ¬ (1 ≤ j ∧ j < m) := fun h1 => he (by rw [← h]; simp [cutE, hS, h1])
      obtain rfl : e0 = 2 := by rw [← h]; simp [cutE, hS, h1]
      exact cut_zero l c n k m j w (by simp [atE, hS, h0]) (by simp; omega)
    · have h1 : ¬ (1 ≤ j ∧ j < m) := fun h1 => h0 (by omega)
      have : atE l n k m j = e0 := by rw [← h]; simp [atE, cutE, hS, h0, h1]
      exact cut_at l c n k m j e0 w this he
theorem cut_ok (l c n k m j : Int) (h : cutE l n k m j = 0) (w : World) :
    Calls Try.prog 35 #[.agg #[.int .u8 l, .int .u32 c, .int .u8 n, .int .i64 k, .int .i64 m], .int .i64 j] w fun e w' => e = .returned (.tuple #[.agg #[.int .u8 l, .int .u32 c, .int .u8 n, .int .i64 k, .int .i64 j], .agg #[.int .u8 l, .int .u32 c, .int .u8 n, .int .i64 (k + j), .int .i64 (m - j)], .int .i64 0]) ∧ Below w.heap.size w w' := by
  unfold cutE at h
  split at h
  · rename_i hS
    split at h
    · rename_i h1
      have hs := (mayS_iff l n k m).1 hS
      refine cut_in l c n k m j w ?_ h1.1 h1.2 (by omega)
      unfold atE
      rw [if_pos hS, if_pos (by omega)]
    · omega
  · omega

end Go.Proofs.Ytaloeaihnkkfeaa
