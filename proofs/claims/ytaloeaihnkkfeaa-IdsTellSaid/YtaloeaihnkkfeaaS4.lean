import Derived.Test.YtaloeaihnkkfeaaS3
namespace Go.Proofs.Ytaloeaihnkkfeaa
open Go.RowKit

theorem keep5 {V X : World} {p : Nat} {x y z u v : Value} (c0 : V.cell? ⟨p, 0, none⟩ = some x) (c1 : V.cell? ⟨p, 1, none⟩ = some y) (c2 : V.cell? ⟨p, 2, none⟩ = some z) (c3 : V.cell? ⟨p, 3, none⟩ = some u) (c4 : V.cell? ⟨p, 4, none⟩ = some v) (hp : p < V.heap.size) (hb : Below V.heap.size V X) :
    X.cell? ⟨p, 0, none⟩ = some x ∧ X.cell? ⟨p, 1, none⟩ = some y ∧ X.cell? ⟨p, 2, none⟩ = some z ∧ X.cell? ⟨p, 3, none⟩ = some u ∧ X.cell? ⟨p, 4, none⟩ = some v :=
  ⟨(hb.cell hp).trans c0, (hb.cell hp).trans c1, (hb.cell hp).trans c2, (hb.cell hp).trans c3, (hb.cell hp).trans c4⟩

set_option maxRecDepth 100000 in
set_option maxHeartbeats 1000000 in
theorem rcut_bad (l c n k m j : Int) (w : World) (hS : mayS l n k m = false) :
    Calls Try.prog 36 #[.agg #[.int .u8 l, .int .u32 c, .int .u8 n, .int .i64 k, .int .i64 m], .int .i64 j] w fun e w' => e = .returned (.tuple #[.agg #[.int .u8 0, .int .u32 0, .int .u8 0, .int .i64 0, .int .i64 0], .agg #[.int .u8 0, .int .u32 0, .int .u8 0, .int .i64 0, .int .i64 0], .int .i64 8]) ∧ Below w.heap.size w w' := by
  go_enter Try.func36, Try.ntmps36
  go_wp2_with fail
  obtain ⟨B, HA, HB, HC⟩ := boxI3 w #[.int .u8 l, .int .u32 c, .int .u8 n, .int .i64 k, .int .i64 m] #[.int .u8 0, .int .u32 0, .int .u8 0, .int .i64 0, .int .i64 0] #[.int .u8 0, .int .u32 0, .int .u8 0, .int .i64 0, .int .i64 0] 44 44 44 _ rfl
  generalize (World.alloc (World.alloc (World.alloc w _) _) _) = W at B HA HB HC ⊢
  obtain ⟨x, hx'⟩ := ext_at W
  rw [hx']; clear hx'
  have hB1 : w.heap.size ≤ w.heap.size + 1 := by omega
  have hB2 : w.heap.size ≤ w.heap.size + 1 + 1 := by omega
  have s0 := HA.at 0 rfl
  have s1 := HA.at 1 rfl
  have s2 := HA.at 2 rfl
  have s3 := HA.at 3 rfl
  have s4 := HA.at 4 rfl
  have a0 := HB.at 0 rfl
  have a1 := HB.at 1 rfl
  have a2 := HB.at 2 rfl
  have a3 := HB.at 3 rfl
  have a4 := HB.at 4 rfl
  have b0 := HC.at 0 rfl
  have b1 := HC.at 1 rfl
  have b2 := HC.at 2 rfl
  have b3 := HC.at 3 rfl
  have b4 := HC.at 4 rfl
  have fa0 := HB.free 0
  have fa1 := HB.free 1
  have fa2 := HB.free 2
  have fa3 := HB.free 3
  have fa4 := HB.free 4
  have fb0 := HC.free 0
  have fb1 := HC.free 1
  have fb2 := HC.free 2
  have fb3 := HC.free 3
  have fb4 := HC.free 4
  go_wp2_with ((go_at_call 60; (with_reducible refine (Calls.ext (rmayS_is _ _ _ _ _ _ hS _)).mono ?_); rintro _ _ ⟨rfl, _, rfl⟩))
  refine bodyPost_ret (v := .tuple #[.agg #[.int .u8 0, .int .u32 0, .int .u8 0, .int .i64 0, .int .i64 0], .agg #[.int .u8 0, .int .u32 0, .int .u8 0, .int .i64 0, .int .i64 0], .int .i64 8]) (by simp [results, Try.results36, go_sem, a0, a1, a2, a3, a4, b0, b1, b2, b3, b4]) rfl ⟨rfl, ?_⟩
  repeat (first | with_reducible exact ext_below B _ | with_reducible refine Below.drew ?_ | with_reducible refine Below.setCell ?_ hB1 _ | with_reducible refine Below.setCell ?_ hB2 _)

set_option maxRecDepth 100000 in
set_option maxHeartbeats 1000000 in
theorem rcut_low (l c n k m j : Int) (w : World) (hS : mayS l n k m = true) (h : j < 1) :
    Calls Try.prog 36 #[.agg #[.int .u8 l, .int .u32 c, .int .u8 n, .int .i64 k, .int .i64 m], .int .i64 j] w fun e w' => e = .returned (.tuple #[.agg #[.int .u8 0, .int .u32 0, .int .u8 0, .int .i64 0, .int .i64 0], .agg #[.int .u8 0, .int .u32 0, .int .u8 0, .int .i64 0, .int .i64 0], .int .i64 2]) ∧ Below w.heap.size w w' := by
  have z := decide_eq_true h
  go_enter Try.func36, Try.ntmps36
  go_wp2_with fail
  obtain ⟨B, HA, HB, HC⟩ := boxI3 w #[.int .u8 l, .int .u32 c, .int .u8 n, .int .i64 k, .int .i64 m] #[.int .u8 0, .int .u32 0, .int .u8 0, .int .i64 0, .int .i64 0] #[.int .u8 0, .int .u32 0, .int .u8 0, .int .i64 0, .int .i64 0] 44 44 44 _ rfl
  generalize (World.alloc (World.alloc (World.alloc w _) _) _) = W at B HA HB HC ⊢
  obtain ⟨x, hx'⟩ := ext_at W
  rw [hx']; clear hx'
  have hB1 : w.heap.size ≤ w.heap.size + 1 := by omega
  have hB2 : w.heap.size ≤ w.heap.size + 1 + 1 := by omega
  have s0 := HA.at 0 rfl
  have s1 := HA.at 1 rfl
  have s2 := HA.at 2 rfl
  have s3 := HA.at 3 rfl
  have s4 := HA.at 4 rfl
  have a0 := HB.at 0 rfl
  have a1 := HB.at 1 rfl
  have a2 := HB.at 2 rfl
  have a3 := HB.at 3 rfl
  have a4 := HB.at 4 rfl
  have b0 := HC.at 0 rfl
  have b1 := HC.at 1 rfl
  have b2 := HC.at 2 rfl
  have b3 := HC.at 3 rfl
  have b4 := HC.at 4 rfl
  have fa0 := HB.free 0
  have fa1 := HB.free 1
  have fa2 := HB.free 2
  have fa3 := HB.free 3
  have fa4 := HB.free 4
  have fb0 := HC.free 0
  have fb1 := HC.free 1
  have fb2 := HC.free 2
  have fb3 := HC.free 3
  have fb4 := HC.free 4
  go_wp2_with ((go_at_call 60; (with_reducible refine (Calls.ext (rmayS_is _ _ _ _ _ _ hS _)).mono ?_); rintro _ _ ⟨rfl, _, rfl⟩))
  refine bodyPost_ret (v := .tuple #[.agg #[.int .u8 0, .int .u32 0, .int .u8 0, .int .i64 0, .int .i64 0], .agg #[.int .u8 0, .int .u32 0, .int .u8 0, .int .i64 0, .int .i64 0], .int .i64 2]) (by simp [results, Try.results36, go_sem, a0, a1, a2, a3, a4, b0, b1, b2, b3, b4]) rfl ⟨rfl, ?_⟩
  repeat (first | with_reducible exact ext_below B _ | with_reducible refine Below.drew ?_ | with_reducible refine Below.setCell ?_ hB1 _ | with_reducible refine Below.setCell ?_ hB2 _)

set_option maxRecDepth 100000 in
set_option maxHeartbeats 1000000 in
theorem rcut_high (l c n k m j : Int) (w : World) (hS : mayS l n k m = true) (h0 : 1 ≤ j) (h : m ≤ j) :
    Calls Try.prog 36 #[.agg #[.int .u8 l, .int .u32 c, .int .u8 n, .int .i64 k, .int .i64 m], .int .i64 j] w fun e w' => e = .returned (.tuple #[.agg #[.int .u8 0, .int .u32 0, .int .u8 0, .int .i64 0, .int .i64 0], .agg #[.int .u8 0, .int .u32 0, .int .u8 0, .int .i64 0, .int .i64 0], .int .i64 2]) ∧ Below w.heap.size w w' := by
  have z := decide_eq_false (show ¬ (j < 1) by omega)
  have z2 := decide_eq_true h
  go_enter Try.func36, Try.ntmps36
  go_wp2_with fail
  obtain ⟨B, HA, HB, HC⟩ := boxI3 w #[.int .u8 l, .int .u32 c, .int .u8 n, .int .i64 k, .int .i64 m] #[.int .u8 0, .int .u32 0, .int .u8 0, .int .i64 0, .int .i64 0] #[.int .u8 0, .int .u32 0, .int .u8 0, .int .i64 0, .int .i64 0] 44 44 44 _ rfl
  generalize (World.alloc (World.alloc (World.alloc w _) _) _) = W at B HA HB HC ⊢
  obtain ⟨x, hx'⟩ := ext_at W
  rw [hx']; clear hx'
  have hB1 : w.heap.size ≤ w.heap.size + 1 := by omega
  have hB2 : w.heap.size ≤ w.heap.size + 1 + 1 := by omega
  have s0 := HA.at 0 rfl
  have s1 := HA.at 1 rfl
  have s2 := HA.at 2 rfl
  have s3 := HA.at 3 rfl
  have s4 := HA.at 4 rfl
  have a0 := HB.at 0 rfl
  have a1 := HB.at 1 rfl
  have a2 := HB.at 2 rfl
  have a3 := HB.at 3 rfl
  have a4 := HB.at 4 rfl
  have b0 := HC.at 0 rfl
  have b1 := HC.at 1 rfl
  have b2 := HC.at 2 rfl
  have b3 := HC.at 3 rfl
  have b4 := HC.at 4 rfl
  have fa0 := HB.free 0
  have fa1 := HB.free 1
  have fa2 := HB.free 2
  have fa3 := HB.free 3
  have fa4 := HB.free 4
  have fb0 := HC.free 0
  have fb1 := HC.free 1
  have fb2 := HC.free 2
  have fb3 := HC.free 3
  have fb4 := HC.free 4
  go_wp2_with ((go_at_call 60; (with_reducible refine (Calls.ext (rmayS_is _ _ _ _ _ _ hS _)).mono ?_); rintro _ _ ⟨rfl, _, rfl⟩))
  refine bodyPost_ret (v := .tuple #[.agg #[.int .u8 0, .int .u32 0, .int .u8 0, .int .i64 0, .int .i64 0], .agg #[.int .u8 0, .int .u32 0, .int .u8 0, .int .i64 0, .int .i64 0], .int .i64 2]) (by simp [results, Try.results36, go_sem, a0, a1, a2, a3, a4, b0, b1, b2, b3, b4]) rfl ⟨rfl, ?_⟩
  repeat (first | with_reducible exact ext_below B _ | with_reducible refine Below.drew ?_ | with_reducible refine Below.setCell ?_ hB1 _ | with_reducible refine Below.setCell ?_ hB2 _)

end Go.Proofs.Ytaloeaihnkkfeaa
