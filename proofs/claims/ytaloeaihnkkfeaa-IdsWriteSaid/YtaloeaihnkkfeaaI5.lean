import Derived.Test.YtaloeaihnkkfeaaI4
import Derived.Test.YtaloeaihnkkfeaaI3
import Derived.Deep.RegionHeld3
import Derived.Deep.RegionLaw
import Derived.IntWalk
namespace Go.Proofs.Ytaloeaihnkkfeaa
open Go.RowKit

theorem blkNew (w : World) (o : Obj) (g : Nat) (h : g = w.heap.size) : (w.alloc o).heap[g]? = some o := by subst h; exact heap_alloc_new w o
theorem blkOld (w : World) (o : Obj) (g : Nat) {c : Obj} (h : g < w.heap.size) (hh : w.heap[g]? = some c) : (w.alloc o).heap[g]? = some c := (Below.heap_alloc w o g h).trans hh
theorem own_one {W : World} {base g : Nat} {x : Int} (hg : W.heap[g]? = some (.cells #[.int .u8 x] 5)) (hb : base ≤ g) : W.ownsRow base 5 1 (.slice (some ⟨g, 0, none⟩) 1 1) 1 [.int .u8 x] :=
  ⟨by simp, .inr ⟨g, 1, #[.int .u8 x], rfl, hb, hg, Nat.le_refl _, by unfold maxLen; omega, by simp, by simp⟩⟩

/-- A slice written out that owns bytes. -/
theorem number_lit (k : Int) (m : Nat) (w : World) (h0 : 0 ≤ k) (h1 : k ≤ 9223372036854775807) (hm : m ≤ 7) (hp : 0 < m) :
    Calls Try.prog 66 #[.int .i64 k, .int .i64 m] w fun e w' => ∃ g cap, e = .returned (.slice (some ⟨g, 0, none⟩) m cap) ∧ OwnsB w' w.heap.size (.slice (some ⟨g, 0, none⟩) m cap) (beL k m) ∧ Below w.heap.size w w' ∧ w.heap.size ≤ g ∧ g < w'.heap.size := by
  refine (number_any k m w h0 h1 hm).mono ?_
  rintro e w' ⟨v, rfl, hv, hb⟩
  obtain ⟨g, cap, rfl⟩ : ∃ g cap, v = .slice (some ⟨g, 0, none⟩) m cap := by
    have hv' := hv
    unfold OwnsB at hv'
    rw [beL_len] at hv'
    rcases hv'.2 with ⟨_, h⟩ | ⟨g, cap, cur, h, _⟩
    · omega
    · exact ⟨g, cap, h⟩
  have := World.ownsRow.lt hv g rfl
  exact ⟨g, cap, rfl, hv, hb, this.1, this.2⟩

theorem number4 (k : Int) (w : World) (h0 : 0 ≤ k) (h1 : k ≤ 9223372036854775807) :
    Calls Try.prog 66 #[.int .i64 k, .int .i64 4] w fun e w' => ∃ g cap, e = .returned (.slice (some ⟨g, 0, none⟩) 4 cap) ∧ OwnsB w' w.heap.size (.slice (some ⟨g, 0, none⟩) 4 cap) (beL k 4) ∧ Below w.heap.size w w' ∧ w.heap.size ≤ g ∧ g < w'.heap.size :=
  number_lit k 4 w h0 h1 (by omega) (by omega)
theorem number7 (k : Int) (w : World) (h0 : 0 ≤ k) (h1 : k ≤ 9223372036854775807) :
    Calls Try.prog 66 #[.int .i64 k, .int .i64 7] w fun e w' => ∃ g cap, e = .returned (.slice (some ⟨g, 0, none⟩) 7 cap) ∧ OwnsB w' w.heap.size (.slice (some ⟨g, 0, none⟩) 7 cap) (beL k 7) ∧ Below w.heap.size w w' ∧ w.heap.size ≤ g ∧ g < w'.heap.size :=
  number_lit k 7 w h0 h1 (by omega) (by omega)
theorem u8s_one {xs : List Int} : ∀ u ∈ u8s xs, u.oneCell' = true := by
  intro u hu
  simp at hu
  obtain ⟨x, _, rfl⟩ := hu
  rfl
theorem own4 {W : World} {B : Nat} {v : Value} {xs : List Int} (h : OwnsB W B v xs) : W.ownsRow B 5 1 v xs.length (u8s xs) := h
theorem keep3 {V X : World} {p : Nat} {x y z : Value} (c0 : V.cell? ⟨p, 0, none⟩ = some x) (c1 : V.cell? ⟨p, 1, none⟩ = some y) (c2 : V.cell? ⟨p, 2, none⟩ = some z) (hp : p < V.heap.size) (hb : Below V.heap.size V X) :
    X.cell? ⟨p, 0, none⟩ = some x ∧ X.cell? ⟨p, 1, none⟩ = some y ∧ X.cell? ⟨p, 2, none⟩ = some z :=
  ⟨(hb.cell hp).trans c0, (hb.cell hp).trans c1, (hb.cell hp).trans c2⟩
theorem news_one {W : World} {g : Nat} {x : Int} (h : W.heap[g]? = some (.cells #[.int .u8 x] 5)) : ∀ j u, [Value.int .u8 x][j]? = some u → W.cell? ((⟨g, 0, none⟩ : Addr).add j) = some u := by
  intro j u hj
  match j, hj with
  | 0, hj => simp at hj; subst hj; simp [Addr.add, World.cell?, h]

/-- A handle's bytes. -/
def hBytes (l c n : Int) : List Int := l :: (beL c 4 ++ [n])

theorem checkH_ok (l c n : Int) (h : mayH l n = true) (w : World) : Calls Try.prog 39 #[.agg #[.int .u8 l, .int .u32 c, .int .u8 n]] w fun e w' => e = .returned (.int .i64 0) ∧ Below w.heap.size w w' := checkH_is l c n true h w
theorem checkH_no (l c n : Int) (h : mayH l n = false) (w : World) : Calls Try.prog 39 #[.agg #[.int .u8 l, .int .u32 c, .int .u8 n]] w fun e w' => e = .returned (.int .i64 8) ∧ Below w.heap.size w w' := checkH_is l c n false h w

set_option maxRecDepth 100000 in
set_option maxHeartbeats 400000 in
theorem putH_bad (l c n : Int) (w : World) (h : mayH l n = false) :
    Calls Try.prog 46 #[.agg #[.int .u8 l, .int .u32 c, .int .u8 n]] w fun e w' => e = .returned (.tuple #[.slice none 0 0, .int .i64 8]) ∧ Below w.heap.size w w' := by
  go_enter Try.func46, Try.ntmps46
  go_wp2_with fail
  have B := below_alloc (Below.refl w.heap.size w) (.cells #[.int .u8 l, .int .u32 c, .int .u8 n] 38)
  generalize (World.alloc w _) = W at B ⊢
  (with_reducible refine (checkH_no _ _ _ h _).mono ?_); rintro _ w1 ⟨rfl, b1⟩
  go_wp2
  go_ret2
  exact ⟨rfl, below_next B b1⟩

theorem own_less {w : World} {base base' size n : Nat} {e : TypeId} {v : Value} {xs : List Value} (h : w.ownsRow base e size v n xs) (hb : base' ≤ base) : w.ownsRow base' e size v n xs :=
  ⟨h.1, h.2.elim Or.inl (fun ⟨g, cap, cur, hv, hg, r⟩ => Or.inr ⟨g, cap, cur, hv, Nat.le_trans hb hg, r⟩)⟩
theorem own_fin {w V wb : World} {l c n : Int} {g cap : Nat} (hs : w.heap.size < V.heap.size) (h : wb.ownsRow V.heap.size 5 1 (.slice (some ⟨g, 0, none⟩) 6 cap) 6 ((.int .u8 l :: u8s (beL c 4)) ++ [.int .u8 n])) :
    OwnsB wb w.heap.size (.slice (some ⟨g, 0, none⟩) 6 cap) (hBytes l c n) := by
  have h2 := own_less h (Nat.le_of_lt hs)
  unfold OwnsB
  have e1 : (hBytes l c n).length = 6 := by simp [hBytes, beL_len]
  rw [e1]
  simpa [hBytes] using h2

set_option maxRecDepth 100000 in
set_option maxHeartbeats 1600000 in
theorem putH_ok (l c n : Int) (w : World) (h : mayH l n = true) (bc0 : 0 ≤ c) (bc1 : c < 4294967296) :
    Calls Try.prog 46 #[.agg #[.int .u8 l, .int .u32 c, .int .u8 n]] w fun e w' => ∃ g cap, e = .returned (.tuple #[.slice (some ⟨g, 0, none⟩) 6 cap, .int .i64 0]) ∧ OwnsB w' w.heap.size (.slice (some ⟨g, 0, none⟩) 6 cap) (hBytes l c n) ∧ Below w.heap.size w w' := by
  obtain ⟨i0, hi, hz0, hz1, hz2⟩ := info_parts Try.info5
  go_enter Try.func46, Try.ntmps46
  go_wp2_with fail
  have B := below_alloc (Below.refl w.heap.size w) (.cells #[.int .u8 l, .int .u32 c, .int .u8 n] 38)
  have HB := Blk.new w #[.int .u8 l, .int .u32 c, .int .u8 n] 38
  generalize (World.alloc w _) = W at B HB ⊢
  (with_reducible refine (checkH_ok _ _ _ h _).mono ?_); rintro _ V ⟨rfl, b1⟩
  replace HB := HB.up b1
  replace B := below_next B b1
  have c0 := HB.here 0 rfl
  have c1 := HB.here 1 rfl
  have c2 := HB.here 2 rfl
  have hs := HB.lt'
  clear HB b1 h
  go_wp2_with fail
  have hwr : IntKind.i64.wrap c = c := IntWalk.i64_in _ (by omega)
  go_region_held3 (fun w' => w'.cell? ⟨w.heap.size, 0, none⟩ = some (.int .u8 l) ∧ w'.cell? ⟨w.heap.size, 1, none⟩ = some (.int .u32 c) ∧ w'.cell? ⟨w.heap.size, 2, none⟩ = some (.int .u8 n))
    (exact keep3 c0 c1 c2 hs (by repeat (first | with_reducible exact Below.refl _ _ | with_reducible exact BC | with_reducible exact BA | with_reducible exact BB | with_reducible refine Below.drew ?_ | with_reducible refine below_alloc ?_ _)))
    (first | (go_at_call 66; (with_reducible refine (number4 _ _ bc0 (by omega)).mono ?_); rintro _ wc ⟨gv, cv, rfl, hv, hbc, hg1, hg2⟩; have BC : Below V.heap.size V wc := below_next (by repeat (first | with_reducible exact Below.refl _ _ | with_reducible exact BC | with_reducible exact BA | with_reducible exact BB | with_reducible refine Below.drew ?_ | with_reducible refine below_alloc ?_ _)) hbc; have hz := hbc.size; (try simp at hz); (try simp at hg1)) | (refine step_append_lies _ (by rfl) (.tmp 13) (.tmp 18) 62 (by rfl) V.heap.size 5 i0 (.int .u8 0) 1 1 Try.underlying62 hi hz0 hz1 hz2 rfl (by omega) _ 1 [.int .u8 l] (by rfl) (own_one (by first | exact (blkNew _ _ _ (by first | (simp; done) | (simp; omega) | omega)) | exact (blkOld _ _ _ (by first | (simp; done) | (simp; omega) | omega) (blkNew _ _ _ (by first | (simp; done) | (simp; omega) | omega))) | exact ((hbc.block _ (by first | (simp; done) | (simp; omega) | omega)).trans (blkNew _ _ _ (by first | (simp; done) | (simp; omega) | omega))) | exact ((hbc.block _ (by first | (simp; done) | (simp; omega) | omega)).trans (blkOld _ _ _ (by first | (simp; done) | (simp; omega) | omega) (blkNew _ _ _ (by first | (simp; done) | (simp; omega) | omega)))) | exact (blkOld _ _ _ (by first | (simp; done) | (simp; omega) | omega) ((hbc.block _ (by first | (simp; done) | (simp; omega) | omega)).trans (blkNew _ _ _ (by first | (simp; done) | (simp; omega) | omega)))) | exact (blkOld _ _ _ (by first | (simp; done) | (simp; omega) | omega) ((hbc.block _ (by first | (simp; done) | (simp; omega) | omega)).trans (blkOld _ _ _ (by first | (simp; done) | (simp; omega) | omega) (blkNew _ _ _ (by first | (simp; done) | (simp; omega) | omega)))))) (by first | (simp; done) | (simp; omega) | omega)) ⟨gv, 0, none⟩ 4 cv (u8s (beL c 4)) (by rfl) (by rfl) (World.ownsRow.cells (own4 (by first | with_reducible exact hv | exact World.ownsRow.drew hv | exact World.ownsRow.alloc hv _ | exact World.ownsRow.alloc (World.ownsRow.alloc hv _) _)) rfl) u8s_one (by omega) (by unfold maxLen; omega) (by omega) (by have := BC.size; first | (simp; done) | (simp; omega) | omega) _ rfl ?_; intro g9 cap9 wa hown9 hgrow9 hat9 hlt9; have BA : Below V.heap.size V wa := Below.grown (by repeat (first | with_reducible exact Below.refl _ _ | with_reducible exact BC | with_reducible exact BA | with_reducible exact BB | with_reducible refine Below.drew ?_ | with_reducible refine below_alloc ?_ _)) hgrow9 (by have := BC.size; first | (simp; done) | (simp; omega) | omega) (fun k hk => by simp [Value.ownBlock] at hk; omega); have hz9 := hgrow9.size; try simp at hz9) | (refine step_append_lies _ (by rfl) (.tmp 19) (.tmp 22) 62 (by rfl) V.heap.size 5 i0 (.int .u8 0) 1 1 Try.underlying62 hi hz0 hz1 hz2 rfl (by omega) _ 5 (.int .u8 l :: u8s (beL c 4)) (by rfl) (by first | exact hown9 | exact World.ownsRow.alloc hown9 _) _ 1 1 [.int .u8 n] (by rfl) (by rfl) (news_one (by first | exact (blkNew _ _ _ (by first | (simp; done) | (simp; omega) | omega)) | exact ((hgrow9.block _ (by first | (simp; done) | (simp; omega) | omega) (by first | (simp [Value.ownBlock]; done) | (simp [Value.ownBlock]; omega))).trans (blkNew _ _ _ (by first | (simp; done) | (simp; omega) | omega))) | exact ((hgrow9.block _ (by first | (simp; done) | (simp; omega) | omega) (by first | (simp [Value.ownBlock]; done) | (simp [Value.ownBlock]; omega))).trans (blkOld _ _ _ (by first | (simp; done) | (simp; omega) | omega) (blkNew _ _ _ (by first | (simp; done) | (simp; omega) | omega)))) | exact ((hgrow9.block _ (by first | (simp; done) | (simp; omega) | omega) (by first | (simp [Value.ownBlock]; done) | (simp [Value.ownBlock]; omega))).trans ((hbc.block _ (by first | (simp; done) | (simp; omega) | omega)).trans (blkNew _ _ _ (by first | (simp; done) | (simp; omega) | omega)))) | exact ((hgrow9.block _ (by first | (simp; done) | (simp; omega) | omega) (by first | (simp [Value.ownBlock]; done) | (simp [Value.ownBlock]; omega))).trans ((hbc.block _ (by first | (simp; done) | (simp; omega) | omega)).trans (blkOld _ _ _ (by first | (simp; done) | (simp; omega) | omega) (blkNew _ _ _ (by first | (simp; done) | (simp; omega) | omega))))) | exact ((hgrow9.block _ (by first | (simp; done) | (simp; omega) | omega) (by first | (simp [Value.ownBlock]; done) | (simp [Value.ownBlock]; omega))).trans (blkOld _ _ _ (by first | (simp; done) | (simp; omega) | omega) ((hbc.block _ (by first | (simp; done) | (simp; omega) | omega)).trans (blkNew _ _ _ (by first | (simp; done) | (simp; omega) | omega))))))) (u8s_one (xs := [n])) (by omega) (by unfold maxLen; omega) (by omega) (by have := BA.size; first | (simp; done) | (simp; omega) | omega) _ rfl ?_; intro g13 cap13 wb hown13 hgrow13 hat13 hlt13; have BB : Below V.heap.size V wb := Below.grown (by repeat (first | with_reducible exact Below.refl _ _ | with_reducible exact BC | with_reducible exact BA | with_reducible exact BB | with_reducible refine Below.drew ?_ | with_reducible refine below_alloc ?_ _)) hgrow13 (by have := BA.size; first | (simp; done) | (simp; omega) | omega) (fun k hk => (World.ownsRow.lt hown9 k hk).1)))
  all_goals
    go_wp2
    go_ret2
    exact ⟨g13, cap13, rfl, own_fin hs hown13, below_next B BB⟩

end Go.Proofs.Ytaloeaihnkkfeaa
