import Derived.Test.YtaloeaihnkkfeaaT3
namespace Go.Proofs.Ytaloeaihnkkfeaa
open Go.RowKit

theorem call54 (args : Array Value) (w : World) : (callFunc 54 args).run Try.prog w = .ok (.enter 54 args) w := by kernel_rfl
theorem call55 (args : Array Value) (w : World) : (callFunc 55 args).run Try.prog w = .ok (.enter 55 args) w := by kernel_rfl

theorem chk_bad (l m : Int) (h : ¬ (l ≤ 15 ∧ m ≤ 15)) : (chk l = 8 ∧ chk m = 0) ∨ (chk l = 0 ∧ chk m = 8) ∨ (chk l = 8 ∧ chk m = 8) := by
  unfold chk
  split <;> split <;> simp_all

/-- The world of Join, Meet at their call of both. -/
abbrev threeW (w : World) (l c m d : Int) : World := (((w.alloc (.cells #[.int .u8 l, .int .u32 c] 24)).alloc (.cells #[.int .u8 m, .int .u32 d] 24)).alloc (.cells #[.int .u8 0, .int .u32 0] 24))

theorem threeW_below (w : World) (l c m d : Int) : Below w.heap.size w (threeW w l c m d) :=
  (((Below.refl _ _).alloc (Nat.le_refl _) _).alloc (by simp) _).alloc (by simp; omega) _

theorem threeW_cells (w : World) (l c m d : Int) {w1 : World} (hb : Below (threeW w l c m d).heap.size (threeW w l c m d) w1) :
    w1.cell? ⟨w.heap.size, 0, none⟩ = some (.int .u8 l) ∧ w1.cell? ⟨w.heap.size, 1, none⟩ = some (.int .u32 c) ∧
    w1.cell? ⟨w.heap.size + 1, 0, none⟩ = some (.int .u8 m) ∧ w1.cell? ⟨w.heap.size + 1, 1, none⟩ = some (.int .u32 d) ∧
    w1.cell? ⟨w.heap.size + 1 + 1, 0, none⟩ = some (.int .u8 0) ∧ w1.cell? ⟨w.heap.size + 1 + 1, 1, none⟩ = some (.int .u32 0) ∧
    w1.frozen? ⟨w.heap.size + 1 + 1, 0, none⟩ = false ∧ w1.frozen? ⟨w.heap.size + 1 + 1, 1, none⟩ = false ∧ w.heap.size + 2 < w1.heap.size := by
  have hs := hb.size
  simp at hs
  refine ⟨?_, ?_, ?_, ?_, ?_, ?_, ?_, ?_, by omega⟩
  · rw [hb.cell (by simp; omega)]; simp [go_sem]
  · rw [hb.cell (by simp; omega)]; simp [go_sem]
  · rw [hb.cell (by simp)]; simp [go_sem]
  · rw [hb.cell (by simp)]; simp [go_sem]
  · rw [hb.cell (by simp)]; simp [go_sem]
  · rw [hb.cell (by simp)]; simp [go_sem]
  · rw [hb.frozen (by simp)]; simp [go_sem]
  · rw [hb.frozen (by simp)]; simp [go_sem]

set_option maxRecDepth 100000 in
set_option maxHeartbeats 400000 in
theorem join_ok (l c m d : Int) (w : World) (hl : l ≤ 15) (hm : m ≤ 15) :
    Calls Try.prog 15 #[.agg #[.int .u8 l, .int .u32 c], .agg #[.int .u8 m, .int .u32 d]] w
      fun e w' => e = .returned (.tuple #[.agg #[.int .u8 (hiI l m), .int .u32 (bits .or .u32 c d)], .int .i64 0]) ∧ Below w.heap.size w w' := by
  have hmf : ∀ (fn : Fn) (first cap : Array Value) (w : World), (Instr.makeFunc fn first cap).run Try.prog w = .ok (.func fn first cap) w := fun _ _ _ _ => rfl
  have hdo : Hid (∀ w', Below (threeW w l c m d).heap.size (threeW w l c m d) w' → Calls Try.prog 54 #[.pointer (some ⟨w.heap.size, 0, none⟩), .pointer (some ⟨w.heap.size + 1, 0, none⟩)] w' fun e w'' => e = .returned (.agg #[.int .u8 (hiI l m), .int .u32 (bits .or .u32 c d)]) ∧ Below w'.heap.size w' w'') := by
    intro w' hb
    obtain ⟨c0, c1, c2, c3, _, _, _, _, hs⟩ := threeW_cells w l c m d hb
    exact join1_any l c m d _ _ w' (by omega) (by omega) c0 c1 c2 c3
  go_enter Try.func15, Try.ntmps15
  go_wp2_with fail
  with_reducible refine (both_ok l c m d (hiI l m) (bits .or .u32 c d) 54 _ _ _ hl hm call54 hdo).mono ?_
  rintro e w1 ⟨rfl, hb1⟩
  obtain ⟨c0, c1, c2, c3, c4, c5, f4, f5, hs⟩ := threeW_cells w l c m d hb1
  have hb2 := (threeW_below w l c m d).trans (hb1.mono (by simp; omega))
  clear hb1 hdo
  go_wp2
  refine bodyPost_ret (v := .tuple #[.agg #[.int .u8 (hiI l m), .int .u32 (bits .or .u32 c d)], .int .i64 0]) (by simp [results, Try.results15, go_sem, c4, c5]) rfl ⟨rfl, ?_⟩
  exact (hb2.setCell (by simp; omega) _).setCell (by simp; omega) _

set_option maxRecDepth 100000 in
set_option maxHeartbeats 400000 in
theorem join_bad (l c m d : Int) (w : World) (hk : ¬ (l ≤ 15 ∧ m ≤ 15)) :
    Calls Try.prog 15 #[.agg #[.int .u8 l, .int .u32 c], .agg #[.int .u8 m, .int .u32 d]] w
      fun e w' => e = .returned (.tuple #[.agg #[.int .u8 0, .int .u32 0], .int .i64 8]) ∧ Below w.heap.size w w' := by
  have hk : Hid (¬ (l ≤ 15 ∧ m ≤ 15)) := hk
  have hmf : ∀ (fn : Fn) (first cap : Array Value) (w : World), (Instr.makeFunc fn first cap).run Try.prog w = .ok (.func fn first cap) w := fun _ _ _ _ => rfl
  have hdo : Hid (∀ w', Below (threeW w l c m d).heap.size (threeW w l c m d) w' → Calls Try.prog 54 #[.pointer (some ⟨w.heap.size, 0, none⟩), .pointer (some ⟨w.heap.size + 1, 0, none⟩)] w' fun e w'' => e = .returned (.agg #[.int .u8 (hiI l m), .int .u32 (bits .or .u32 c d)]) ∧ Below w'.heap.size w' w'') := by
    intro w' hb
    obtain ⟨c0, c1, c2, c3, _, _, _, _, hs⟩ := threeW_cells w l c m d hb
    exact join1_any l c m d _ _ w' (by omega) (by omega) c0 c1 c2 c3
  go_enter Try.func15, Try.ntmps15
  go_wp2_with fail
  with_reducible refine (both_bad l c m d (hiI l m) (bits .or .u32 c d) _ _ 54 _ _ _ (chk_bad l m hk.out) rfl rfl call54 hdo).mono ?_
  rintro e w1 ⟨rfl, hb1⟩
  obtain ⟨c0, c1, c2, c3, c4, c5, f4, f5, hs⟩ := threeW_cells w l c m d hb1
  have hb2 := (threeW_below w l c m d).trans (hb1.mono (by simp; omega))
  clear hb1 hdo
  go_wp2
  refine bodyPost_ret (v := .tuple #[.agg #[.int .u8 0, .int .u32 0], .int .i64 8]) (by simp [results, Try.results15, go_sem, c4, c5]) rfl ⟨rfl, ?_⟩
  exact (hb2.setCell (by simp; omega) _).setCell (by simp; omega) _

set_option maxRecDepth 100000 in
set_option maxHeartbeats 400000 in
theorem meet_ok (l c m d : Int) (w : World) (hl : l ≤ 15) (hm : m ≤ 15) :
    Calls Try.prog 16 #[.agg #[.int .u8 l, .int .u32 c], .agg #[.int .u8 m, .int .u32 d]] w
      fun e w' => e = .returned (.tuple #[.agg #[.int .u8 (loI l m), .int .u32 (bits .and .u32 c d)], .int .i64 0]) ∧ Below w.heap.size w w' := by
  have hmf : ∀ (fn : Fn) (first cap : Array Value) (w : World), (Instr.makeFunc fn first cap).run Try.prog w = .ok (.func fn first cap) w := fun _ _ _ _ => rfl
  have hdo : Hid (∀ w', Below (threeW w l c m d).heap.size (threeW w l c m d) w' → Calls Try.prog 55 #[.pointer (some ⟨w.heap.size, 0, none⟩), .pointer (some ⟨w.heap.size + 1, 0, none⟩)] w' fun e w'' => e = .returned (.agg #[.int .u8 (loI l m), .int .u32 (bits .and .u32 c d)]) ∧ Below w'.heap.size w' w'') := by
    intro w' hb
    obtain ⟨c0, c1, c2, c3, _, _, _, _, hs⟩ := threeW_cells w l c m d hb
    exact meet1_any l c m d _ _ w' (by omega) (by omega) c0 c1 c2 c3
  go_enter Try.func16, Try.ntmps16
  go_wp2_with fail
  with_reducible refine (both_ok l c m d (loI l m) (bits .and .u32 c d) 55 _ _ _ hl hm call55 hdo).mono ?_
  rintro e w1 ⟨rfl, hb1⟩
  obtain ⟨c0, c1, c2, c3, c4, c5, f4, f5, hs⟩ := threeW_cells w l c m d hb1
  have hb2 := (threeW_below w l c m d).trans (hb1.mono (by simp; omega))
  clear hb1 hdo
  go_wp2
  refine bodyPost_ret (v := .tuple #[.agg #[.int .u8 (loI l m), .int .u32 (bits .and .u32 c d)], .int .i64 0]) (by simp [results, Try.results16, go_sem, c4, c5]) rfl ⟨rfl, ?_⟩
  exact (hb2.setCell (by simp; omega) _).setCell (by simp; omega) _

set_option maxRecDepth 100000 in
set_option maxHeartbeats 400000 in
theorem meet_bad (l c m d : Int) (w : World) (hk : ¬ (l ≤ 15 ∧ m ≤ 15)) :
    Calls Try.prog 16 #[.agg #[.int .u8 l, .int .u32 c], .agg #[.int .u8 m, .int .u32 d]] w
      fun e w' => e = .returned (.tuple #[.agg #[.int .u8 0, .int .u32 0], .int .i64 8]) ∧ Below w.heap.size w w' := by
  have hk : Hid (¬ (l ≤ 15 ∧ m ≤ 15)) := hk
  have hmf : ∀ (fn : Fn) (first cap : Array Value) (w : World), (Instr.makeFunc fn first cap).run Try.prog w = .ok (.func fn first cap) w := fun _ _ _ _ => rfl
  have hdo : Hid (∀ w', Below (threeW w l c m d).heap.size (threeW w l c m d) w' → Calls Try.prog 55 #[.pointer (some ⟨w.heap.size, 0, none⟩), .pointer (some ⟨w.heap.size + 1, 0, none⟩)] w' fun e w'' => e = .returned (.agg #[.int .u8 (loI l m), .int .u32 (bits .and .u32 c d)]) ∧ Below w'.heap.size w' w'') := by
    intro w' hb
    obtain ⟨c0, c1, c2, c3, _, _, _, _, hs⟩ := threeW_cells w l c m d hb
    exact meet1_any l c m d _ _ w' (by omega) (by omega) c0 c1 c2 c3
  go_enter Try.func16, Try.ntmps16
  go_wp2_with fail
  with_reducible refine (both_bad l c m d (loI l m) (bits .and .u32 c d) _ _ 55 _ _ _ (chk_bad l m hk.out) rfl rfl call55 hdo).mono ?_
  rintro e w1 ⟨rfl, hb1⟩
  obtain ⟨c0, c1, c2, c3, c4, c5, f4, f5, hs⟩ := threeW_cells w l c m d hb1
  have hb2 := (threeW_below w l c m d).trans (hb1.mono (by simp; omega))
  clear hb1 hdo
  go_wp2
  refine bodyPost_ret (v := .tuple #[.agg #[.int .u8 0, .int .u32 0], .int .i64 8]) (by simp [results, Try.results16, go_sem, c4, c5]) rfl ⟨rfl, ?_⟩
  exact (hb2.setCell (by simp; omega) _).setCell (by simp; omega) _

end Go.Proofs.Ytaloeaihnkkfeaa
