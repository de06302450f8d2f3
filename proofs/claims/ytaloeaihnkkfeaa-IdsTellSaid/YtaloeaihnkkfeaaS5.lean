import Derived.Test.YtaloeaihnkkfeaaS4
namespace Go.Proofs.Ytaloeaihnkkfeaa
open Go.RowKit

/-- More may be asked of the world at every step. -/
theorem wpAnyH_weaken {P : Program} {md : Region.Mode} {ops : Array Oper} {Q : Exit → Act → World → Prop} {S S' : World → Prop} (hS : ∀ w, S' w → S w) : ∀ (fuel : Nat) (listed : Array Bool) (a : Act) (w : World), wpAnyH P md ops Q S' fuel listed a w → wpAnyH P md ops Q S fuel listed a w
  | 0, _, _, _, h => h
  | fuel + 1, _, _, _, h => ⟨h.1, fun i hi => wpOp_mono (fun a' w' h' => ⟨hS _ h'.1, wpAnyH_weaken hS fuel _ a' w' h'.2⟩) (h.2 i hi)⟩

set_option maxRecDepth 100000 in
set_option maxHeartbeats 1600000 in
theorem rcut_nat (l c n k : Int) (M J : Nat) (w : World) (hS : mayS l n k (M : Int) = true) (h0 : 1 ≤ J) (h : J < M) (hM : M ≤ 64) (hk1 : 1 ≤ k) (hk2 : k ≤ 1099511627776) :
    Calls Try.prog 36 #[.agg #[.int .u8 l, .int .u32 c, .int .u8 n, .int .i64 k, .int .i64 (M : Int)], .int .i64 (J : Int)] w fun e w' => e = .returned (.tuple #[.agg #[.int .u8 l, .int .u32 c, .int .u8 n, .int .i64 k, .int .i64 (J : Int)], .agg #[.int .u8 l, .int .u32 c, .int .u8 n, .int .i64 (k + (J : Int)), .int .i64 ((M : Int) - (J : Int))], .int .i64 0]) ∧ Below w.heap.size w w' := by
  have z := decide_eq_false (show ¬ ((J : Int) < 1) by omega)
  have z1 : decide (J < 1) = false := decide_eq_false (by omega)
  have z2 : decide ((M : Int) ≤ (J : Int)) = false := decide_eq_false (by omega)
  have z3 : decide (M ≤ J) = false := decide_eq_false (by omega)
  have hJ0 : (0 : Int) ≤ (J : Int) := by omega
  have hJ1 : (J : Int) < (M : Int) := by omega
  have hwr : IntKind.i64.wrap ((M : Int) - (J : Int)) = (M : Int) - (J : Int) := IntWalk.i64_in _ (by omega)
  go_enter Try.func36, Try.ntmps36
  go_wp2_with fail
  obtain ⟨B, HA, HB, HC⟩ := boxI3 w #[.int .u8 l, .int .u32 c, .int .u8 n, .int .i64 k, .int .i64 (M : Int)] #[.int .u8 0, .int .u32 0, .int .u8 0, .int .i64 0, .int .i64 0] #[.int .u8 0, .int .u32 0, .int .u8 0, .int .i64 0, .int .i64 0] 44 44 44 _ rfl
  generalize (World.alloc (World.alloc (World.alloc w _) _) _) = W at B HA HB HC ⊢
  obtain ⟨x, hx'⟩ := ext_at W
  rw [hx']; clear hx'
  have hB1 : w.heap.size ≤ w.heap.size + 1 := by omega
  have hB2 : w.heap.size ≤ w.heap.size + 1 + 1 := by omega
  have s0 := HA.at 0 rfl
  have s1 := HA.at 1 rfl
  have s2 := HA.at 2 rfl
  have s3 := HA.at 3 rfl
  have s4 := HA.at 4 rfl
  have a0 := HB.at 0 rfl
  have a1 := HB.at 1 rfl
  have a2 := HB.at 2 rfl
  have a3 := HB.at 3 rfl
  have a4 := HB.at 4 rfl
  have b0 := HC.at 0 rfl
  have b1 := HC.at 1 rfl
  have b2 := HC.at 2 rfl
  have b3 := HC.at 3 rfl
  have b4 := HC.at 4 rfl
  have fa0 := HB.free 0
  have fa1 := HB.free 1
  have fa2 := HB.free 2
  have fa3 := HB.free 3
  have fa4 := HB.free 4
  have fb0 := HC.free 0
  have fb1 := HC.free 1
  have fb2 := HC.free 2
  have fb3 := HC.free 3
  have fb4 := HC.free 4
  (with_reducible refine (Calls.ext (rmayS_is _ _ _ _ _ _ hS _)).mono ?_); rintro _ _ ⟨rfl, V0, rfl⟩
  go_wp2_with fail
  have BV := ext_below B V0
  replace HA := HA.up V0.below
  replace HB := HB.up V0.below
  replace HC := HC.up V0.below
  clear B a0 a1 a2 a3 a4 b0 b1 b2 b3 b4 s0 s1 s2 s3 s4 fa0 fa1 fa2 fa3 fa4 fb0 fb1 fb2 fb3 fb4
  generalize V0.at' = V at HA HB HC BV ⊢
  have hs := HA.lt'
  have s0 := HA.here 0 rfl
  have s1 := HA.here 1 rfl
  have s2 := HA.here 2 rfl
  have s3 := HA.here 3 rfl
  have s4 := HA.here 4 rfl
  have hHeld := keep5 s0 s1 s2 s3 s4 hs (Below.refl _ _).drew
  clear s0 s1 s2 s3 s4
  refine wp_region_held_drew (S := (fun w' => w'.cell? ⟨w.heap.size, 0, none⟩ = some (.int .u8 l) ∧ w'.cell? ⟨w.heap.size, 1, none⟩ = some (.int .u32 c) ∧ w'.cell? ⟨w.heap.size, 2, none⟩ = some (.int .u8 n) ∧ w'.cell? ⟨w.heap.size, 3, none⟩ = some (.int .i64 k) ∧ w'.cell? ⟨w.heap.size, 4, none⟩ = some (.int .i64 (M : Int)))) (by kernel_rfl) hHeld (fun hHeld => ?_)
  refine wpAnyH_take (i := 0) (oi := _) (v := ?_) rfl (by kernel_rfl) (by kernel_rfl) (by kernel_rfl) (fun _ _ _ h => h) (Or.inl ⟨by rfl, ?_⟩) (by assumption) ?_
  rotate_left
  · intro w hSw
    try dsimp only at hSw
    go_simp
    try with_reducible rfl
  try simp only [Act.put]
  refine wpAnyH_take (i := 1) (oi := _) (v := ?_) rfl (by kernel_rfl) (by kernel_rfl) (by kernel_rfl) (fun _ _ _ h => h) (Or.inl ⟨by rfl, ?_⟩) (by assumption) ?_
  rotate_left
  · intro w hSw
    try dsimp only at hSw
    go_simp
    try with_reducible rfl
  try simp only [Act.put]
  refine wpAnyH_take (i := 2) (oi := _) (v := ?_) rfl (by kernel_rfl) (by kernel_rfl) (by kernel_rfl) (fun _ _ _ h => h) (Or.inl ⟨by rfl, ?_⟩) (by assumption) ?_
  rotate_left
  · intro w hSw
    try dsimp only at hSw
    go_simp
    try with_reducible rfl
  try simp only [Act.put]
  refine wpAnyH_take (i := 3) (oi := _) (v := ?_) rfl (by kernel_rfl) (by kernel_rfl) (by kernel_rfl) (fun _ _ _ h => h) (Or.inl ⟨by rfl, ?_⟩) (by assumption) ?_
  rotate_left
  · intro w hSw
    try dsimp only at hSw
    go_simp
    try with_reducible rfl
  try simp only [Act.put]
  refine wpAnyH_take (i := 4) (oi := _) (v := ?_) rfl (by kernel_rfl) (by kernel_rfl) (by kernel_rfl) (fun _ _ _ h => h) (Or.inl ⟨by rfl, ?_⟩) (by assumption) ?_
  rotate_left
  · intro w hSw
    try dsimp only at hSw
    go_simp
    try with_reducible rfl
  try simp only [Act.put]
  refine wpAnyH_take (i := 6) (oi := _) (v := ?_) rfl (by kernel_rfl) (by kernel_rfl) (by kernel_rfl) (fun _ _ _ h => h) (Or.inl ⟨by rfl, ?_⟩) (by assumption) ?_
  rotate_left
  · intro w hSw
    try dsimp only at hSw
    go_simp
    try with_reducible rfl
  try simp only [Act.put]
  refine wpAnyH_take (i := 9) (oi := _) (v := ?_) rfl (by kernel_rfl) (by kernel_rfl) (by kernel_rfl) (fun _ _ _ h => h) (Or.inl ⟨by rfl, ?_⟩) (by assumption) ?_
  rotate_left
  · intro w hSw
    try dsimp only at hSw
    go_simp
    try with_reducible rfl
  try simp only [Act.put]
  refine wpAnyH_take (i := 10) (oi := _) (v := ?_) rfl (by kernel_rfl) (by kernel_rfl) (by kernel_rfl) (fun _ _ _ h => h) (Or.inl ⟨by rfl, ?_⟩) (by assumption) ?_
  rotate_left
  · intro w hSw
    try dsimp only at hSw
    go_simp
    try with_reducible rfl
  try simp only [Act.put]
  refine wpAnyH_take (i := 11) (oi := _) (v := ?_) rfl (by kernel_rfl) (by kernel_rfl) (by kernel_rfl) (fun _ _ _ h => h) (Or.inl ⟨by rfl, ?_⟩) (by assumption) ?_
  rotate_left
  · intro w hSw
    try dsimp only at hSw
    go_simp
    try with_reducible rfl
  try simp only [Act.put]
  refine wpAnyH_take (i := 12) (oi := _) (v := ?_) rfl (by kernel_rfl) (by kernel_rfl) (by kernel_rfl) (fun _ _ _ h => h) (Or.inl ⟨by rfl, ?_⟩) (by assumption) ?_
  rotate_left
  · intro w hSw
    try dsimp only at hSw
    go_simp
    try with_reducible rfl
  try simp only [Act.put]
  refine wpAnyH_ready (rs := [5]) (by kernel_rfl) (by simp) ?_
  refine AllReadyH.cons (o := _) rfl (fun K hK => ?_) AllReadyH.nil
  go_simp
  (with_reducible refine (all_nat _ _ _ _ _ _ hk1 hk2 (by omega) hM).mono ?_); rintro _ wa ⟨g, cap, rfl, hA, ba, hg⟩
  have BA : Below V.heap.size V wa := below_next (Below.refl _ _).drew ba
  have hgV : V.heap.size ≤ g := hg
  have HB2 := HB.up BA
  have HC2 := HC.up BA
  have hC3 := HC.lt'
  have hn1 : w.heap.size + 1 ≠ g := by omega
  have hn2 : w.heap.size + 1 + 1 ≠ g := by omega
  have hn4 : w.heap.size + 1 + 1 ≠ w.heap.size := by omega
  have a0 := HB2.here 0 rfl
  have a1 := HB2.here 1 rfl
  have a2 := HB2.here 2 rfl
  have a3 := HB2.here 3 rfl
  have a4 := HB2.here 4 rfl
  have b0 := HC2.here 0 rfl
  have b1 := HC2.here 1 rfl
  have b2 := HC2.here 2 rfl
  have b3 := HC2.here 3 rfl
  have b4 := HC2.here 4 rfl
  have fa0 := HB2.open 0
  have fa1 := HB2.open 1
  have fa2 := HB2.open 2
  have fa3 := HB2.open 3
  have fa4 := HB2.open 4
  have fb0 := HC2.open 0
  have fb1 := HC2.open 1
  have fb2 := HC2.open 2
  have fb3 := HC2.open 3
  have fb4 := HC2.open 4
  have kk : (fun w' => w'.cell? ⟨w.heap.size, 0, none⟩ = some (.int .u8 l) ∧ w'.cell? ⟨w.heap.size, 1, none⟩ = some (.int .u32 c) ∧ w'.cell? ⟨w.heap.size, 2, none⟩ = some (.int .u8 n) ∧ w'.cell? ⟨w.heap.size, 3, none⟩ = some (.int .i64 k) ∧ w'.cell? ⟨w.heap.size, 4, none⟩ = some (.int .i64 (M : Int))) wa := keep5 (HA.here 0 rfl) (HA.here 1 rfl) (HA.here 2 rfl) (HA.here 3 rfl) (HA.here 4 rfl) hs BA
  dsimp only at kk
  have e0 := hA.c0 J h ⟨wa, Below.refl _ _⟩
  have e1 := hA.c1 J h ⟨wa, Below.refl _ _⟩
  have e2 := hA.c2 J h ⟨wa, Below.refl _ _⟩
  have e3 := hA.c3 J h ⟨wa, Below.refl _ _⟩
  refine hK.out _ _ kk (fun _ => ?_)
  clear hK K hHeld hA ba hg
  try simp only [Act.put]
  obtain ⟨t0, t1, t2, t3, t4⟩ := kk
  refine wpAnyH_weaken (S' := (fun w' => w'.cell? ⟨w.heap.size, 0, none⟩ = some (.int .u8 l) ∧ w'.cell? ⟨w.heap.size, 1, none⟩ = some (.int .u32 c) ∧ w'.cell? ⟨w.heap.size, 2, none⟩ = some (.int .u8 n) ∧ w'.cell? ⟨w.heap.size, 3, none⟩ = some (.int .i64 k) ∧ w'.cell? ⟨w.heap.size, 4, none⟩ = some (.int .i64 (M : Int)) ∧ w'.cell? ⟨g, J * 4, none⟩ = some (.int .u8 l) ∧ w'.cell? ⟨g, J * 4 + 1, none⟩ = some (.int .u32 c) ∧ w'.cell? ⟨g, J * 4 + 2, none⟩ = some (.int .u8 n) ∧ w'.cell? ⟨g, J * 4 + 3, none⟩ = some (.int .i64 (k + (J : Int))))) (fun _ hh => ⟨hh.1, hh.2.1, hh.2.2.1, hh.2.2.2.1, hh.2.2.2.2.1⟩) _ _ _ _ ?_
  have hHeld : (fun w' => w'.cell? ⟨w.heap.size, 0, none⟩ = some (.int .u8 l) ∧ w'.cell? ⟨w.heap.size, 1, none⟩ = some (.int .u32 c) ∧ w'.cell? ⟨w.heap.size, 2, none⟩ = some (.int .u8 n) ∧ w'.cell? ⟨w.heap.size, 3, none⟩ = some (.int .i64 k) ∧ w'.cell? ⟨w.heap.size, 4, none⟩ = some (.int .i64 (M : Int)) ∧ w'.cell? ⟨g, J * 4, none⟩ = some (.int .u8 l) ∧ w'.cell? ⟨g, J * 4 + 1, none⟩ = some (.int .u32 c) ∧ w'.cell? ⟨g, J * 4 + 2, none⟩ = some (.int .u8 n) ∧ w'.cell? ⟨g, J * 4 + 3, none⟩ = some (.int .i64 (k + (J : Int)))) wa := ⟨t0, t1, t2, t3, t4, e0, e1, e2, e3⟩
  dsimp only at hHeld
  refine wpAnyH_take (i := 7) (oi := _) (v := ?_) rfl (by kernel_rfl) (by kernel_rfl) (by kernel_rfl) (fun _ _ _ h => h) (Or.inl ⟨by rfl, ?_⟩) (by assumption) ?_
  rotate_left
  · intro w hSw
    try dsimp only at hSw
    go_simp
    try with_reducible rfl
  try simp only [Act.put]
  refine wpAnyH_take (i := 8) (oi := _) (v := ?_) rfl (by kernel_rfl) (by kernel_rfl) (by kernel_rfl) (fun _ _ _ h => h) (Or.inl ⟨by rfl, ?_⟩) (by assumption) ?_
  rotate_left
  · intro w hSw
    try dsimp only at hSw
    go_simp
    try with_reducible rfl
  try simp only [Act.put]
  refine wpAnyH_take (i := 13) (oi := _) (v := ?_) rfl (by kernel_rfl) (by kernel_rfl) (by kernel_rfl) (fun _ _ _ h => h) (Or.inl ⟨by rfl, ?_⟩) (by assumption) ?_
  rotate_left
  · intro w hSw
    try dsimp only at hSw
    go_simp
    try with_reducible rfl
  try simp only [Act.put]
  refine wpAnyH_ready (rs := [14]) (by kernel_rfl) (by simp) ?_
  refine AllReadyH.cons (o := _) rfl (fun K hK => ?_) AllReadyH.nil
  go_simp
  refine hK.out _ _ ?_ (fun hHeld => ?_)
  · simp [*, World.cell?_setCell_far]
  clear hK K
  try simp only [Act.put]
  refine wpAnyH_ready (rs := [15]) (by kernel_rfl) (by simp) ?_
  refine AllReadyH.cons (o := _) rfl (fun K hK => ?_) AllReadyH.nil
  go_simp
  refine hK.out _ _ ?_ (fun hHeld => ?_)
  · simp [*, World.cell?_setCell_far]
  clear hK K
  try simp only [Act.put]
  refine wpAnyH_ready (rs := [16]) (by kernel_rfl) (by simp) ?_
  refine AllReadyH.cons (o := _) rfl (fun K hK => ?_) AllReadyH.nil
  go_simp
  refine hK.out _ _ ?_ (fun hHeld => ?_)
  · exact hHeld
  clear hK K
  try simp only [Act.put]
  refine wpAnyH_done (by kernel_rfl) ?_ _
  replace BA := below_next BV BA
  go_wp2
  refine bodyPost_ret (v := .tuple #[.agg #[.int .u8 l, .int .u32 c, .int .u8 n, .int .i64 k, .int .i64 (J : Int)], .agg #[.int .u8 l, .int .u32 c, .int .u8 n, .int .i64 (k + (J : Int)), .int .i64 ((M : Int) - (J : Int))], .int .i64 0]) (by simp [results, Try.results36, go_sem, a0, a1, a2, a3, a4, b0, b1, b2, b3, b4]) rfl ⟨rfl, ?_⟩
  repeat (first | with_reducible exact BA | with_reducible refine Below.drew ?_ | with_reducible refine Below.setCell ?_ hB1 _ | with_reducible refine Below.setCell ?_ hB2 _)

theorem rcut_err (l c n k m j e0 : Int) (h : cutE l n k m j = e0) (he : e0 ≠ 0) (w : World) :
    Calls Try.prog 36 #[.agg #[.int .u8 l, .int .u32 c, .int .u8 n, .int .i64 k, .int .i64 m], .int .i64 j] w fun e w' => e = .returned (.tuple #[.agg #[.int .u8 0, .int .u32 0, .int .u8 0, .int .i64 0, .int .i64 0], .agg #[.int .u8 0, .int .u32 0, .int .u8 0, .int .i64 0, .int .i64 0], .int .i64 e0]) ∧ Below w.heap.size w w' := by
  subst h
  unfold cutE at *
  cases hS : mayS l n k m
  · simp only [Bool.false_eq_true, if_false]; exact rcut_bad l c n k m j w hS
  · rw [hS] at he
    simp only [if_true] at he ⊢
    by_cases h1 : 1 ≤ j ∧ j < m
    · rw [if_pos h1] at he; exact absurd rfl he
    · rw [if_neg h1]
      by_cases h2 : j < 1
      · exact rcut_low l c n k m j w hS h2
      · exact rcut_high l c n k m j w hS (by omega) (by omega)
theorem rcut_ok (l c n k m j : Int) (h : cutE l n k m j = 0) (w : World) :
    Calls Try.prog 36 #[.agg #[.int .u8 l, .int .u32 c, .int .u8 n, .int .i64 k, .int .i64 m], .int .i64 j] w fun e w' => e = .returned (.tuple #[.agg #[.int .u8 l, .int .u32 c, .int .u8 n, .int .i64 k, .int .i64 j], .agg #[.int .u8 l, .int .u32 c, .int .u8 n, .int .i64 (k + j), .int .i64 (m - j)], .int .i64 0]) ∧ Below w.heap.size w w' := by
  unfold cutE at h
  split at h
  · rename_i hS
    split at h
    · have hs := (mayS_iff l n k m).1 hS
      obtain ⟨M, rfl⟩ := Int.eq_ofNat_of_zero_le (show 0 ≤ m by omega)
      obtain ⟨J, rfl⟩ := Int.eq_ofNat_of_zero_le (show 0 ≤ j by omega)
      exact rcut_nat l c n k M J w hS (by omega) (by omega) (by omega) (by omega) (by omega)
    · omega
  · omega

end Go.Proofs.Ytaloeaihnkkfeaa
