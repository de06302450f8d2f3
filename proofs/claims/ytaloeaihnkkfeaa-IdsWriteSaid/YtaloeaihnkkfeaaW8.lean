import Derived.Test.YtaloeaihnkkfeaaI7
namespace Go.Proofs.Ytaloeaihnkkfeaa
open Go.RowKit

set_option maxRecDepth 100000 in
set_option maxHeartbeats 4000000 in
theorem idsOrder_walk (l c n k m d q j l3 c3 n3 k3 : Int) (w : World) (x y r s E G : Bool)
    (hcase : (x = true ∧ y = false ∧ E = false ∧ r = false ∧ G = false) ∨ (x = true ∧ y = false ∧ E = false ∧ r = false ∧ G = true) ∨ (x = true ∧ y = false ∧ E = false ∧ r = true ∧ s = true ∧ G = false) ∨ (x = true ∧ y = false ∧ E = false ∧ r = true ∧ s = true ∧ G = true) ∨ (x = false ∧ y = true ∧ E = false ∧ G = true) ∨ (x = false ∧ y = false ∧ E = true ∧ G = true))
    (hx : lessB l c n k m d q j = x) (hy : lessB m d q j l c n k = y) (hr : lessB m d q j l3 c3 n3 k3 = r) (hs : lessB l c n k l3 c3 n3 k3 = s) (hG : decide (j ≤ k) = G)
    (e1 : ∀ w, (binOp .neq 40 (.agg #[.int .u8 l, .int .u32 c, .int .u8 n, .int .i64 k]) (.agg #[.int .u8 m, .int .u32 d, .int .u8 q, .int .i64 j])).run Try.prog w = .ok (.bool (!E)) w) :
    Calls Try.prog 8 #[.agg #[.int .u8 l, .int .u32 c, .int .u8 n, .int .i64 k], .agg #[.int .u8 m, .int .u32 d, .int .u8 q, .int .i64 j], .agg #[.int .u8 l3, .int .u32 c3, .int .u8 n3, .int .i64 k3]] w fun e w' => e = .returned (.bool true) ∧ Below w.heap.size w w' := by
  go_enter Try.func8, Try.ntmps8
  go_wp2_with fail
  obtain ⟨B, HA, HB, HC⟩ := boxI3 w #[.int .u8 l, .int .u32 c, .int .u8 n, .int .i64 k] #[.int .u8 m, .int .u32 d, .int .u8 q, .int .i64 j] #[.int .u8 l3, .int .u32 c3, .int .u8 n3, .int .i64 k3] 40 40 40 _ rfl
  generalize (World.alloc (World.alloc (World.alloc w _) _) _) = W at B HA HB HC ⊢
  obtain ⟨x0, hx'⟩ := ext_at W
  rw [hx']; clear hx'
  (with_reducible refine (Calls.ext (alive5_any _)).mono ?_); rintro _ _ ⟨rfl, y0, rfl⟩
  have a0 := HA.at 0 rfl
  have a1 := HA.at 1 rfl
  have a2 := HA.at 2 rfl
  have a3 := HA.at 3 rfl
  have b0 := HB.at 0 rfl
  have b1 := HB.at 1 rfl
  have b2 := HB.at 2 rfl
  have b3 := HB.at 3 rfl
  have c0 := HC.at 0 rfl
  have c1 := HC.at 1 rfl
  have c2 := HC.at 2 rfl
  have c3 := HC.at 3 rfl
  have hne := ext_ne W
  clear HA HB HC
  go_wp2_with fail
  rcases hcase with ⟨rfl, rfl, rfl, rfl, rfl⟩ | ⟨rfl, rfl, rfl, rfl, rfl⟩ | ⟨rfl, rfl, rfl, rfl, rfl, rfl⟩ | ⟨rfl, rfl, rfl, rfl, rfl, rfl⟩ | ⟨rfl, rfl, rfl, rfl⟩ | ⟨rfl, rfl, rfl, rfl⟩
  all_goals
    refine wp_region_extW (by kernel_rfl) (by kernel_rfl) ?_
    repeat (go_big_quiet_step (first | (go_at_call 30; with_reducible exact Calls.ext (less_is _ _ _ _ _ _ _ _ _ hx _)) | (go_at_call 30; with_reducible exact Calls.ext (less_is _ _ _ _ _ _ _ _ _ hy _))))
    refine wpQuiet_nil ?_
    rintro _ ⟨xx, rfl⟩
    go_wp2_with (first | (go_at_call 30; (with_reducible refine (Calls.ext (less_is _ _ _ _ _ _ _ _ _ hr _)).mono ?_); rintro _ _ ⟨rfl, _, rfl⟩) | (go_at_call 30; (with_reducible refine (Calls.ext (less_is _ _ _ _ _ _ _ _ _ hs _)).mono ?_); rintro _ _ ⟨rfl, _, rfl⟩))
    go_ret
    exact ⟨rfl, ext_below B _⟩

theorem lessB_iff (l c n k m d q j : Int) : lessB l c n k m d q j = true ↔ k < j ∨ (k = j ∧ (l < m ∨ (l = m ∧ (c < d ∨ (c = d ∧ n < q))))) := by
  unfold lessB
  by_cases h : k = j
  · subst h
    rw [if_pos rfl]
    cases hE : eqL l c m d
    · have h1 : ¬ (l = m ∧ c = d) := fun h => by simp [eqL, h] at hE
      simp only [Bool.false_eq_true, if_false, ahead_iff, Int.lt_irrefl, true_and, false_or]
      constructor <;> intro h <;> omega
    · have h1 : l = m ∧ c = d := by simpa [eqL] using hE
      simp only [if_true, decide_eq_true_eq, Int.lt_irrefl, true_and, false_or]
      constructor <;> intro h <;> omega
  · rw [if_neg h]
    simp
    omega

theorem idsOrder_all (l c n k m d q j l3 c3 n3 k3 : Int) (w : World) (_b0 : 0 ≤ l ∧ l ≤ 255) (_b1 : 0 ≤ c ∧ c < 4294967296) (_b2 : 0 ≤ n ∧ n ≤ 255) (_b3 : I64 k) (_b4 : 0 ≤ m ∧ m ≤ 255) (_b5 : 0 ≤ d ∧ d < 4294967296) (_b6 : 0 ≤ q ∧ q ≤ 255) (_b7 : I64 j) (_b8 : 0 ≤ l3 ∧ l3 ≤ 255) (_b9 : 0 ≤ c3 ∧ c3 < 4294967296) (_b10 : 0 ≤ n3 ∧ n3 ≤ 255) (_b11 : I64 k3) :
    Calls Try.prog 8 #[.agg #[.int .u8 l, .int .u32 c, .int .u8 n, .int .i64 k], .agg #[.int .u8 m, .int .u32 d, .int .u8 q, .int .i64 j], .agg #[.int .u8 l3, .int .u32 c3, .int .u8 n3, .int .i64 k3]] w fun e w' => e = .returned (.bool true) ∧ Below w.heap.size w w' := by
  refine idsOrder_walk l c n k m d q j l3 c3 n3 k3 w (lessB l c n k m d q j) (lessB m d q j l c n k) (lessB m d q j l3 c3 n3 k3) (lessB l c n k l3 c3 n3 k3) (eqI l c n k m d q j) (decide (j ≤ k)) ?_ rfl rfl rfl rfl rfl (run_neI _ _ _ _ _ _ _ _ _ rfl)
  have hE := eqI_iff l c n k m d q j
  have hx := lessB_iff l c n k m d q j
  have hy := lessB_iff m d q j l c n k
  have hr := lessB_iff m d q j l3 c3 n3 k3
  have hs := lessB_iff l c n k l3 c3 n3 k3
  have hG : decide (j ≤ k) = true ↔ j ≤ k := by simp
  clear _b0 _b1 _b2 _b3 _b4 _b5 _b6 _b7 _b8 _b9 _b10 _b11
  generalize eqI l c n k m d q j = E at *
  generalize lessB l c n k m d q j = x at *
  generalize lessB m d q j l c n k = y at *
  generalize lessB m d q j l3 c3 n3 k3 = r at *
  generalize lessB l c n k l3 c3 n3 k3 = s at *
  generalize decide (j ≤ k) = G at *
  cases E
  · have hE' : ¬ (l = m ∧ c = d ∧ n = q ∧ k = j) := fun h => absurd (hE.2 h) (by simp)
    cases x
    · have hx' : ¬ _ := fun h => absurd (hx.2 h) (by simp)
      obtain rfl : y = true := hy.2 (by omega)
      obtain rfl : G = true := hG.2 (by omega)
      exact .inr (.inr (.inr (.inr (.inl ⟨rfl, rfl, rfl, rfl⟩))))
    · have hx' := hx.1 rfl
      obtain rfl : y = false := Bool.eq_false_iff.2 fun h => by have := hy.1 h; omega
      cases r
      · cases G
        · exact .inl ⟨rfl, rfl, rfl, rfl, rfl⟩
        · exact .inr (.inl ⟨rfl, rfl, rfl, rfl, rfl⟩)
      · have hr' := hr.1 rfl
        obtain rfl : s = true := hs.2 (by omega)
        cases G
        · exact .inr (.inr (.inl ⟨rfl, rfl, rfl, rfl, rfl, rfl⟩))
        · exact .inr (.inr (.inr (.inl ⟨rfl, rfl, rfl, rfl, rfl, rfl⟩)))
  · have hE' := hE.1 rfl
    obtain rfl : x = false := Bool.eq_false_iff.2 fun h => by have := hx.1 h; omega
    obtain rfl : y = false := Bool.eq_false_iff.2 fun h => by have := hy.1 h; omega
    obtain rfl : G = true := hG.2 (by omega)
    exact .inr (.inr (.inr (.inr (.inr ⟨rfl, rfl, rfl, rfl⟩))))

end Go.Proofs.Ytaloeaihnkkfeaa
