import Derived.Test.YtaloeaihnkkfeaaI5
namespace Go.Proofs.Ytaloeaihnkkfeaa
open Go.RowKit

/-- An id's bytes. -/
def iBytes (l c n k : Int) : List Int := hBytes l c n ++ beL k 7
theorem hBytes_len (l c n : Int) : (hBytes l c n).length = 6 := by simp [hBytes, beL_len]
theorem iBytes_len (l c n k : Int) : (iBytes l c n k).length = 13 := by simp [iBytes, hBytes_len, beL_len]

theorem checkI_ok (l c n k : Int) (h : mayI l n k = true) (w : World) : Calls Try.prog 37 #[.agg #[.int .u8 l, .int .u32 c, .int .u8 n, .int .i64 k]] w fun e w' => e = .returned (.int .i64 0) ∧ Below w.heap.size w w' := checkI_is l c n k true h w
theorem checkI_no (l c n k : Int) (h : mayI l n k = false) (w : World) : Calls Try.prog 37 #[.agg #[.int .u8 l, .int .u32 c, .int .u8 n, .int .i64 k]] w fun e w' => e = .returned (.int .i64 8) ∧ Below w.heap.size w w' := checkI_is l c n k false h w

set_option maxRecDepth 100000 in
set_option maxHeartbeats 400000 in
theorem put_bad (l c n k : Int) (w : World) (h : mayI l n k = false) :
    Calls Try.prog 44 #[.agg #[.int .u8 l, .int .u32 c, .int .u8 n, .int .i64 k]] w fun e w' => e = .returned (.tuple #[.slice none 0 0, .int .i64 8]) ∧ Below w.heap.size w w' := by
  go_enter Try.func44, Try.ntmps44
  go_wp2_with fail
  have B := below_alloc (Below.refl w.heap.size w) (.cells #[.int .u8 l, .int .u32 c, .int .u8 n, .int .i64 k] 40)
  generalize (World.alloc w _) = W at B ⊢
  (with_reducible refine (checkI_no _ _ _ _ h _).mono ?_); rintro _ w1 ⟨rfl, b1⟩
  go_wp2
  go_ret2
  exact ⟨rfl, below_next B b1⟩

theorem own_keep {w w' : World} {B : Nat} {g n cap : Nat} {xs : List Int} (h : OwnsB w B (.slice (some ⟨g, 0, none⟩) n cap) xs) (hb : Below w.heap.size w w') : OwnsB w' B (.slice (some ⟨g, 0, none⟩) n cap) xs :=
  World.ownsRow.kept (row := none) h ⟨hb.os, hb.tape, hb.output, hb.size, fun i hi _ => hb.block i hi⟩ (.inr (by simp [Value.ownBlock]))

set_option maxRecDepth 100000 in
set_option maxHeartbeats 1000000 in
theorem put_ok (l c n k : Int) (w : World) (h : mayI l n k = true) (bc0 : 0 ≤ c) (bc1 : c < 4294967296) :
    Calls Try.prog 44 #[.agg #[.int .u8 l, .int .u32 c, .int .u8 n, .int .i64 k]] w fun e w' => ∃ g cap, e = .returned (.tuple #[.slice (some ⟨g, 0, none⟩) 13 cap, .int .i64 0]) ∧ OwnsB w' w.heap.size (.slice (some ⟨g, 0, none⟩) 13 cap) (iBytes l c n k) ∧ Below w.heap.size w w' := by
  obtain ⟨i0, hi, hz0, hz1, hz2⟩ := info_parts Try.info5
  obtain ⟨k1, k2, k3, k4⟩ := (mayI_iff l n k).1 h
  have hH : mayH l n = true := (mayH_iff l n).2 ⟨k1, k2⟩
  go_enter Try.func44, Try.ntmps44
  go_wp2_with fail
  have B := below_alloc (Below.refl w.heap.size w) (.cells #[.int .u8 l, .int .u32 c, .int .u8 n, .int .i64 k] 40)
  have HB := Blk.new w #[.int .u8 l, .int .u32 c, .int .u8 n, .int .i64 k] 40
  generalize (World.alloc w _) = W at B HB ⊢
  (with_reducible refine (checkI_ok _ _ _ _ h _).mono ?_); rintro _ V ⟨rfl, b1⟩
  replace HB := HB.up b1
  replace B := below_next B b1
  have c0 := HB.here 0 rfl
  have c1 := HB.here 1 rfl
  have c2 := HB.here 2 rfl
  clear b1 h
  go_wp2_with fail
  (with_reducible refine (putH_ok _ _ _ _ hH bc0 bc1).mono ?_); rintro _ V2 ⟨g, cap, rfl, ho, b2⟩
  have hs := HB.lt'
  replace HB := HB.up b2
  replace B := below_next B b2
  have c3 := HB.here 3 rfl
  clear c0 c1 c2 b2
  go_wp2_with fail
  (with_reducible refine (number7 _ _ (by omega) (by omega)).mono ?_); rintro _ V3 ⟨gv, cv, rfl, hv, b3, hg1, hg2⟩
  replace ho := own_keep ho b3
  replace B := below_next B b3
  have hBs := B.size
  clear c3 HB b3
  have ho' := own_less ho (Nat.le_trans (Nat.le_of_lt (show w.heap.size < V.heap.size from hs)) (Nat.le_refl _))
  rw [hBytes_len] at ho'
  clear ho
  go_wp2_with (at_builtin; refine wpList_append_lies _ rfl (.tmp 18) (.tmp 21) 62 rfl w.heap.size 5 i0 (.int .u8 0) 1 1 Try.underlying62 hi hz0 hz1 hz2 rfl (by decide) _ 6 (u8s (hBytes l c n)) rfl ho' ⟨gv, 0, none⟩ 7 cv (u8s (beL k 7)) rfl rfl (World.ownsRow.cells (own4 hv) rfl) u8s_one (by omega) (by unfold maxLen; omega) (by omega) hBs _ rfl ?_; intro g9 cap9 wa hown9 hgrow9 hat9 hlt9)
  go_ret2
  refine ⟨g9, cap9, rfl, ?_, Below.grown B hgrow9 hBs (fun k hk => (World.ownsRow.lt ho' k hk).1)⟩
  unfold OwnsB
  rw [iBytes_len]
  simpa [iBytes] using hown9

end Go.Proofs.Ytaloeaihnkkfeaa
