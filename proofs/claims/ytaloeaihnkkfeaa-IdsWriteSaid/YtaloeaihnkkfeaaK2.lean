import Derived.Test.YtaloeaihnkkfeaaK1
namespace Go.Proofs.Ytaloeaihnkkfeaa
open Go.RowKit

set_option maxRecDepth 100000 in
set_option maxHeartbeats 1600000 in
theorem rnamed_any (l c n : Int) (w : World) (bc0 : 0 ≤ c) (bc1 : c < 4294967296) :
    Calls Try.prog 68 #[.agg #[.int .u8 l, .int .u32 c, .int .u8 n]] w fun e w' => ∃ g cap, e = .returned (.slice (some ⟨g, 0, none⟩) 6 cap) ∧ OwnsB w' w.heap.size (.slice (some ⟨g, 0, none⟩) 6 cap) (hBytes l c n) ∧ Below w.heap.size w w' ∧ w.heap.size ≤ g ∧ g < w'.heap.size := by
  obtain ⟨i0, hi, hz0, hz1, hz2⟩ := info_parts Try.info5
  go_enter Try.func68, Try.ntmps68
  go_wp2_with fail
  have B := below_alloc (Below.refl w.heap.size w) (.cells #[.int .u8 l, .int .u32 c, .int .u8 n] 38)
  have HB := Blk.new w #[.int .u8 l, .int .u32 c, .int .u8 n] 38
  generalize (World.alloc w _) = V at B HB ⊢
  have c0 := HB.here 0 rfl
  have c1 := HB.here 1 rfl
  have c2 := HB.here 2 rfl
  have hs := HB.lt'
  have hwr : IntKind.i64.wrap c = c := IntWalk.i64_in _ (by omega)
  go_region_held3 (fun w' => w'.cell? ⟨w.heap.size, 0, none⟩ = some (.int .u8 l) ∧ w'.cell? ⟨w.heap.size, 1, none⟩ = some (.int .u32 c) ∧ w'.cell? ⟨w.heap.size, 2, none⟩ = some (.int .u8 n))
    (exact keep3 c0 c1 c2 hs (by repeat (first | with_reducible exact Below.refl _ _ | with_reducible exact BC | with_reducible exact BA | with_reducible refine Below.drew ?_ | with_reducible refine below_alloc ?_ _)))
    (first | (go_at_call 73; (with_reducible refine (wide4 _ _ bc0 (by omega)).mono ?_); rintro _ wc ⟨gv, cv, rfl, hv, hbc, hg1, hg2⟩; have BC : Below V.heap.size V wc := below_next (by repeat (first | with_reducible exact Below.refl _ _ | with_reducible exact BC | with_reducible exact BA | with_reducible refine Below.drew ?_ | with_reducible refine below_alloc ?_ _)) hbc; have hz := hbc.size; (try simp at hz); (try simp at hg1)) | (refine step_append_lies _ (by rfl) (.tmp 7) (.tmp 12) 62 (by rfl) V.heap.size 5 i0 (.int .u8 0) 1 1 Try.underlying62 hi hz0 hz1 hz2 rfl (by omega) _ 1 [.int .u8 l] (by rfl) (own_one (by first | exact (blkNew _ _ _ (by first | (simp; done) | (simp; omega) | omega)) | exact ((hbc.block _ (by first | (simp; done) | (simp; omega) | omega)).trans (blkNew _ _ _ (by first | (simp; done) | (simp; omega) | omega)))) (by first | (simp; done) | (simp; omega) | omega)) ⟨gv, 0, none⟩ 4 cv (u8s (beL c 4)) (by rfl) (by rfl) (World.ownsRow.cells (own4 (by first | with_reducible exact hv | exact World.ownsRow.drew hv | exact World.ownsRow.alloc hv _)) rfl) u8s_one (by omega) (by unfold maxLen; omega) (by omega) (by have := BC.size; first | (simp; done) | (simp; omega) | omega) _ rfl ?_; intro g9 cap9 wa hown9 hgrow9 hat9 hlt9; have BA : Below V.heap.size V wa := Below.grown (by repeat (first | with_reducible exact Below.refl _ _ | with_reducible exact BC | with_reducible exact BA | with_reducible refine Below.drew ?_ | with_reducible refine below_alloc ?_ _)) hgrow9 (by have := BC.size; first | (simp; done) | (simp; omega) | omega) (fun k hk => by simp [Value.ownBlock] at hk; omega)))
  all_goals
    replace HB := HB.up BA
    replace B := below_next B BA
    have hBs := B.size
    clear c0 c1 c2 hv hbc hgrow9 hat9
    have c2 := HB.here 2 rfl
    have hown : wa.ownsRow w.heap.size 5 1 (.slice (some ⟨g9, 0, none⟩) 5 cap9) 5 (.int .u8 l :: u8s (beL c 4)) := own_less hown9 (Nat.le_of_lt hs)
    clear hown9
    go_wp2_with (at_builtin; refine wpList_append_lies _ rfl (.tmp 14) (.tmp 17) 62 rfl w.heap.size 5 i0 (.int .u8 0) 1 1 Try.underlying62 hi hz0 hz1 hz2 rfl (by decide) _ 5 (.int .u8 l :: u8s (beL c 4)) rfl (World.ownsRow.alloc hown _) ⟨wa.heap.size, 0, none⟩ 1 1 [.int .u8 n] rfl rfl (news_one (heap_alloc_new wa _)) (u8s_one (xs := [n])) (by omega) (by unfold maxLen; omega) (by omega) (by simp; omega) _ rfl ?_; intro g13 cap13 wb hown13 hgrow13 hat13 hlt13)
    go_ret
    refine ⟨g13, cap13, rfl, ?_, Below.grown (below_alloc B _) hgrow13 (by simp; omega) (fun k hk => (World.ownsRow.lt hown k hk).1), (World.ownsRow.lt hown13 g13 rfl).1, hlt13⟩
    unfold OwnsB
    rw [hBytes_len]
    simpa [hBytes] using hown13

end Go.Proofs.Ytaloeaihnkkfeaa
