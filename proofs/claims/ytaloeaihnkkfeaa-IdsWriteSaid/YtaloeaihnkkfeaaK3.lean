import Derived.Test.YtaloeaihnkkfeaaK2
namespace Go.Proofs.Ytaloeaihnkkfeaa
open Go.RowKit

theorem keep4 {V X : World} {p : Nat} {x y z u : Value} (c0 : V.cell? ⟨p, 0, none⟩ = some x) (c1 : V.cell? ⟨p, 1, none⟩ = some y) (c2 : V.cell? ⟨p, 2, none⟩ = some z) (c3 : V.cell? ⟨p, 3, none⟩ = some u) (hp : p < V.heap.size) (hb : Below V.heap.size V X) :
    X.cell? ⟨p, 0, none⟩ = some x ∧ X.cell? ⟨p, 1, none⟩ = some y ∧ X.cell? ⟨p, 2, none⟩ = some z ∧ X.cell? ⟨p, 3, none⟩ = some u :=
  ⟨(hb.cell hp).trans c0, (hb.cell hp).trans c1, (hb.cell hp).trans c2, (hb.cell hp).trans c3⟩
theorem own6 {W : World} {B B' g cap : Nat} {l c n : Int} (h : OwnsB W B (.slice (some ⟨g, 0, none⟩) 6 cap) (hBytes l c n)) (hb : B' ≤ B) : W.ownsRow B' 5 1 (.slice (some ⟨g, 0, none⟩) 6 cap) 6 (u8s (hBytes l c n)) := by
  have h2 := own_less h hb
  rwa [hBytes_len] at h2

set_option maxRecDepth 100000 in
set_option maxHeartbeats 1600000 in
theorem rbytes_any (l c n k : Int) (w : World) (bc0 : 0 ≤ c) (bc1 : c < 4294967296) (bk0 : 0 ≤ k) (bk1 : k ≤ 9223372036854775807) :
    Calls Try.prog 67 #[.agg #[.int .u8 l, .int .u32 c, .int .u8 n, .int .i64 k]] w fun e w' => ∃ g cap, e = .returned (.slice (some ⟨g, 0, none⟩) 13 cap) ∧ OwnsB w' w.heap.size (.slice (some ⟨g, 0, none⟩) 13 cap) (iBytes l c n k) ∧ Below w.heap.size w w' := by
  obtain ⟨i0, hi, hz0, hz1, hz2⟩ := info_parts Try.info5
  go_enter Try.func67, Try.ntmps67
  go_wp2_with fail
  have B := below_alloc (Below.refl w.heap.size w) (.cells #[.int .u8 l, .int .u32 c, .int .u8 n, .int .i64 k] 40)
  have HB := Blk.new w #[.int .u8 l, .int .u32 c, .int .u8 n, .int .i64 k] 40
  generalize (World.alloc w _) = V at B HB ⊢
  have c0 := HB.here 0 rfl
  have c1 := HB.here 1 rfl
  have c2 := HB.here 2 rfl
  have c3 := HB.here 3 rfl
  have hs := HB.lt'
  go_region_held3 (fun w' => w'.cell? ⟨w.heap.size, 0, none⟩ = some (.int .u8 l) ∧ w'.cell? ⟨w.heap.size, 1, none⟩ = some (.int .u32 c) ∧ w'.cell? ⟨w.heap.size, 2, none⟩ = some (.int .u8 n) ∧ w'.cell? ⟨w.heap.size, 3, none⟩ = some (.int .i64 k))
    (exact keep4 c0 c1 c2 c3 hs (by repeat (first | with_reducible exact Below.refl _ _ | with_reducible exact BN | with_reducible exact BC | with_reducible exact BA | with_reducible refine Below.drew ?_ | with_reducible refine below_alloc ?_ _)))
    (first | (go_at_call 68; (with_reducible refine (rnamed_any _ _ _ _ bc0 bc1).mono ?_); rintro _ wn ⟨gn, cn, rfl, hn, hbn, hn1, hn2⟩; have BN : Below V.heap.size V wn := below_next (by repeat (first | with_reducible exact Below.refl _ _ | with_reducible exact BN | with_reducible exact BC | with_reducible exact BA | with_reducible refine Below.drew ?_ | with_reducible refine below_alloc ?_ _)) hbn; have hn3 : V.heap.size ≤ gn := by (first | exact hn1 | exact Nat.le_trans BC.size hn1)) | (go_at_call 73; (with_reducible refine (wide7 _ _ bk0 bk1).mono ?_); rintro _ wc ⟨gv, cv, rfl, hv, hbc, hg1, hg2⟩; have BC : Below V.heap.size V wc := below_next (by repeat (first | with_reducible exact Below.refl _ _ | with_reducible exact BN | with_reducible exact BC | with_reducible exact BA | with_reducible refine Below.drew ?_ | with_reducible refine below_alloc ?_ _)) hbc) | (refine step_append_lies _ (by rfl) (.tmp 5) (.tmp 8) 62 (by rfl) V.heap.size 5 i0 (.int .u8 0) 1 1 Try.underlying62 hi hz0 hz1 hz2 rfl (by omega) _ 6 (u8s (hBytes l c n)) (by rfl) (own6 (by first | exact own_keep hn hbc | exact hn) (by have := BN.size; have := BC.size; first | exact Nat.le_refl _ | assumption | exact BN.size | exact BC.size)) ⟨gv, 0, none⟩ 7 cv (u8s (beL k 7)) (by rfl) (by rfl) (World.ownsRow.cells (own4 (by first | exact hv | exact own_keep hv hbn)) rfl) u8s_one (by omega) (by unfold maxLen; omega) (by omega) (by have := BN.size; have := BC.size; omega) _ rfl ?_; intro g9 cap9 wa hown9 hgrow9 hat9 hlt9; have BA : Below V.heap.size V wa := Below.grown (by repeat (first | with_reducible exact Below.refl _ _ | with_reducible exact BN | with_reducible exact BC | with_reducible exact BA | with_reducible refine Below.drew ?_ | with_reducible refine below_alloc ?_ _)) hgrow9 (by have := BN.size; have := BC.size; omega) (fun k hk => by simp [Value.ownBlock] at hk; have := BN.size; have := BC.size; omega)))
  all_goals
    go_wp2
    go_ret
    refine ⟨g9, cap9, rfl, ?_, below_next B BA⟩
    unfold OwnsB
    rw [iBytes_len]
    simpa [iBytes] using own_less hown9 (Nat.le_of_lt hs)

set_option maxRecDepth 100000 in
set_option maxHeartbeats 400000 in
theorem rputH_bad (l c n : Int) (w : World) (h : mayH l n = false) :
    Calls Try.prog 47 #[.agg #[.int .u8 l, .int .u32 c, .int .u8 n]] w fun e w' => e = .returned (.tuple #[.slice none 0 0, .int .i64 8]) ∧ Below w.heap.size w w' := by
  go_enter Try.func47, Try.ntmps47
  go_wp2_with fail
  have B := below_alloc (Below.refl w.heap.size w) (.cells #[.int .u8 l, .int .u32 c, .int .u8 n] 38)
  generalize (World.alloc w _) = W at B ⊢
  (with_reducible refine (rmayH_is _ _ _ _ h _).mono ?_); rintro _ w1 ⟨rfl, b1⟩
  go_wp2
  go_ret2
  exact ⟨rfl, below_next B b1⟩
set_option maxRecDepth 100000 in
set_option maxHeartbeats 400000 in
theorem rput_bad (l c n k : Int) (w : World) (h : mayI l n k = false) :
    Calls Try.prog 45 #[.agg #[.int .u8 l, .int .u32 c, .int .u8 n, .int .i64 k]] w fun e w' => e = .returned (.tuple #[.slice none 0 0, .int .i64 8]) ∧ Below w.heap.size w w' := by
  go_enter Try.func45, Try.ntmps45
  go_wp2_with fail
  have B := below_alloc (Below.refl w.heap.size w) (.cells #[.int .u8 l, .int .u32 c, .int .u8 n, .int .i64 k] 40)
  generalize (World.alloc w _) = W at B ⊢
  (with_reducible refine (rmayI_is _ _ _ _ _ h _).mono ?_); rintro _ w1 ⟨rfl, b1⟩
  go_wp2
  go_ret2
  exact ⟨rfl, below_next B b1⟩

set_option maxRecDepth 100000 in
set_option maxHeartbeats 400000 in
theorem rputH_ok (l c n : Int) (w : World) (h : mayH l n = true) (bc0 : 0 ≤ c) (bc1 : c < 4294967296) :
    Calls Try.prog 47 #[.agg #[.int .u8 l, .int .u32 c, .int .u8 n]] w fun e w' => ∃ g cap, e = .returned (.tuple #[.slice (some ⟨g, 0, none⟩) 6 cap, .int .i64 0]) ∧ OwnsB w' w.heap.size (.slice (some ⟨g, 0, none⟩) 6 cap) (hBytes l c n) ∧ Below w.heap.size w w' := by
  go_enter Try.func47, Try.ntmps47
  go_wp2_with fail
  have B := below_alloc (Below.refl w.heap.size w) (.cells #[.int .u8 l, .int .u32 c, .int .u8 n] 38)
  have HB := Blk.new w #[.int .u8 l, .int .u32 c, .int .u8 n] 38
  generalize (World.alloc w _) = W at B HB ⊢
  (with_reducible refine (rmayH_is _ _ _ _ h _).mono ?_); rintro _ w1 ⟨rfl, b1⟩
  replace HB := HB.up b1
  replace B := below_next B b1
  have c0 := HB.here 0 rfl
  have c1 := HB.here 1 rfl
  have c2 := HB.here 2 rfl
  go_wp2_with fail
  (with_reducible refine (rnamed_any _ _ _ _ bc0 bc1).mono ?_); rintro _ w2 ⟨g, cap, rfl, ho, b2, _, _⟩
  go_wp2
  go_ret2
  exact ⟨g, cap, rfl, own_less ho B.size, below_next B b2⟩

set_option maxRecDepth 100000 in
set_option maxHeartbeats 400000 in
theorem rput_ok (l c n k : Int) (w : World) (h : mayI l n k = true) (bc0 : 0 ≤ c) (bc1 : c < 4294967296) :
    Calls Try.prog 45 #[.agg #[.int .u8 l, .int .u32 c, .int .u8 n, .int .i64 k]] w fun e w' => ∃ g cap, e = .returned (.tuple #[.slice (some ⟨g, 0, none⟩) 13 cap, .int .i64 0]) ∧ OwnsB w' w.heap.size (.slice (some ⟨g, 0, none⟩) 13 cap) (iBytes l c n k) ∧ Below w.heap.size w w' := by
  obtain ⟨k1, k2, k3, k4⟩ := (mayI_iff l n k).1 h
  go_enter Try.func45, Try.ntmps45
  go_wp2_with fail
  have B := below_alloc (Below.refl w.heap.size w) (.cells #[.int .u8 l, .int .u32 c, .int .u8 n, .int .i64 k] 40)
  have HB := Blk.new w #[.int .u8 l, .int .u32 c, .int .u8 n, .int .i64 k] 40
  generalize (World.alloc w _) = W at B HB ⊢
  (with_reducible refine (rmayI_is _ _ _ _ _ h _).mono ?_); rintro _ w1 ⟨rfl, b1⟩
  replace HB := HB.up b1
  replace B := below_next B b1
  have c0 := HB.here 0 rfl
  have c1 := HB.here 1 rfl
  have c2 := HB.here 2 rfl
  have c3 := HB.here 3 rfl
  go_wp2_with fail
  (with_reducible refine (rbytes_any _ _ _ _ _ bc0 bc1 (by omega) (by omega)).mono ?_); rintro _ w2 ⟨g, cap, rfl, ho, b2⟩
  go_wp2
  go_ret2
  exact ⟨g, cap, rfl, own_less ho B.size, below_next B b2⟩

end Go.Proofs.Ytaloeaihnkkfeaa
