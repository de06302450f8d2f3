import Derived.Test.YtaloeaihnkkfeaaR4
namespace Go.Proofs.Ytaloeaihnkkfeaa
open Go.RowKit

theorem may_is (l c : Int) (r : Bool) (h : mayB l = r) (w : World) : Calls Try.prog 56 #[.agg #[.int .u8 l, .int .u32 c]] w fun e w' => e = .returned (.bool r) ∧ Below w.heap.size w w' := by
  subst h; exact may1_any l c w

theorem threeW_ext (w : World) (l c m d : Int) : ∀ W, W = ((w.alloc (.cells #[.int .u8 l, .int .u32 c] 24)).alloc (.cells #[.int .u8 m, .int .u32 d] 24)).alloc (.cells #[.int .u8 0, .int .u32 0] 24) → Below w.heap.size w W ∧
    (∀ X : Ext W, X.at'.cell? ⟨w.heap.size, 0, none⟩ = some (.int .u8 l)) ∧ (∀ X : Ext W, X.at'.cell? ⟨w.heap.size, 1, none⟩ = some (.int .u32 c)) ∧
    (∀ X : Ext W, X.at'.cell? ⟨w.heap.size + 1, 0, none⟩ = some (.int .u8 m)) ∧ (∀ X : Ext W, X.at'.cell? ⟨w.heap.size + 1, 1, none⟩ = some (.int .u32 d)) ∧
    (∀ X : Ext W, X.at'.cell? ⟨w.heap.size + 1 + 1, 0, none⟩ = some (.int .u8 0)) ∧ (∀ X : Ext W, X.at'.cell? ⟨w.heap.size + 1 + 1, 1, none⟩ = some (.int .u32 0)) ∧
    (∀ X : Ext W, X.at'.frozen? ⟨w.heap.size + 1 + 1, 0, none⟩ = false) ∧ (∀ X : Ext W, X.at'.frozen? ⟨w.heap.size + 1 + 1, 1, none⟩ = false) ∧ (∀ X : Ext W, w.heap.size + 2 < X.at'.heap.size) := by
  rintro W rfl
  have h := fun X : Ext (threeW w l c m d) => threeW_cells w l c m d X.below
  exact ⟨threeW_below w l c m d, fun X => (h X).1, fun X => (h X).2.1, fun X => (h X).2.2.1, fun X => (h X).2.2.2.1, fun X => (h X).2.2.2.2.1, fun X => (h X).2.2.2.2.2.1, fun X => (h X).2.2.2.2.2.2.1, fun X => (h X).2.2.2.2.2.2.2.1, fun X => (h X).2.2.2.2.2.2.2.2⟩

set_option maxRecDepth 100000 in
set_option maxHeartbeats 1000000 in
theorem rjoin_ok (l c m d : Int) (w : World) (hl : l ≤ 15) (hm : m ≤ 15) (bc : U32 c) (bd : U32 d) :
    Calls Try.prog 23 #[.agg #[.int .u8 l, .int .u32 c], .agg #[.int .u8 m, .int .u32 d]] w fun e w' => e = .returned (.tuple #[.agg #[.int .u8 (hiI l m), .int .u32 (bits .or .u32 c d)], .int .i64 0]) ∧ Below w.heap.size w w' := by
  have h1 : mayB l = true := by simp [mayB]; omega
  have h2 : mayB m = true := by simp [mayB]; omega
  go_enter Try.func23, Try.ntmps23
  go_wp2_with fail
  obtain ⟨B, p0, p1, p2, p3, p4, p5, f4, f5, hs⟩ := threeW_ext w l c m d _ rfl
  generalize (World.alloc (World.alloc (World.alloc w _) _) _) = W at B p0 p1 p2 p3 p4 p5 f4 f5 hs ⊢
  obtain ⟨x, hx'⟩ := ext_at W
  rw [hx']; clear hx'
  go_wp2_with (first | (go_at_call 56; (with_reducible refine (Calls.ext (may_is _ _ _ h1 _)).mono ?_); rintro _ _ ⟨rfl, _, rfl⟩) | (go_at_call 56; (with_reducible refine (Calls.ext (may_is _ _ _ h2 _)).mono ?_); rintro _ _ ⟨rfl, _, rfl⟩) | (go_at_call 57; (with_reducible refine (Calls.ext (rput_or _ _ _ _ _ bc bd)).mono ?_); rintro _ _ ⟨rfl, _, rfl⟩))
  refine bodyPost_ret (v := .tuple #[.agg #[.int .u8 (hiI l m), .int .u32 (bits .or .u32 c d)], .int .i64 0]) (by simp [results, Try.results23, go_sem, p4, p5]) rfl ⟨rfl, ?_⟩
  exact ((ext_below B _).setCell (by simp; omega) _).setCell (by simp; omega) _

set_option maxRecDepth 100000 in
set_option maxHeartbeats 1000000 in
theorem rjoin_bad1 (l c m d : Int) (w : World) (hl : ¬ l ≤ 15) :
    Calls Try.prog 23 #[.agg #[.int .u8 l, .int .u32 c], .agg #[.int .u8 m, .int .u32 d]] w fun e w' => e = .returned (.tuple #[.agg #[.int .u8 0, .int .u32 0], .int .i64 8]) ∧ Below w.heap.size w w' := by
  have h1 : mayB l = false := by simp [mayB]; omega
  go_enter Try.func23, Try.ntmps23
  go_wp2_with fail
  obtain ⟨B, p0, p1, p2, p3, p4, p5, f4, f5, hs⟩ := threeW_ext w l c m d _ rfl
  generalize (World.alloc (World.alloc (World.alloc w _) _) _) = W at B p0 p1 p2 p3 p4 p5 f4 f5 hs ⊢
  obtain ⟨x, hx'⟩ := ext_at W
  rw [hx']; clear hx'
  go_wp2_with ((go_at_call 56; (with_reducible refine (Calls.ext (may_is _ _ _ h1 _)).mono ?_); rintro _ _ ⟨rfl, _, rfl⟩))
  refine bodyPost_ret (v := .tuple #[.agg #[.int .u8 0, .int .u32 0], .int .i64 8]) (by simp [results, Try.results23, go_sem, p4, p5]) rfl ⟨rfl, ?_⟩
  exact ((ext_below B _).setCell (by simp; omega) _).setCell (by simp; omega) _

set_option maxRecDepth 100000 in
set_option maxHeartbeats 1000000 in
theorem rjoin_bad2 (l c m d : Int) (w : World) (hl : l ≤ 15) (hm : ¬ m ≤ 15) :
    Calls Try.prog 23 #[.agg #[.int .u8 l, .int .u32 c], .agg #[.int .u8 m, .int .u32 d]] w fun e w' => e = .returned (.tuple #[.agg #[.int .u8 0, .int .u32 0], .int .i64 8]) ∧ Below w.heap.size w w' := by
  have h1 : mayB l = true := by simp [mayB]; omega
  have h2 : mayB m = false := by simp [mayB]; omega
  go_enter Try.func23, Try.ntmps23
  go_wp2_with fail
  obtain ⟨B, p0, p1, p2, p3, p4, p5, f4, f5, hs⟩ := threeW_ext w l c m d _ rfl
  generalize (World.alloc (World.alloc (World.alloc w _) _) _) = W at B p0 p1 p2 p3 p4 p5 f4 f5 hs ⊢
  obtain ⟨x, hx'⟩ := ext_at W
  rw [hx']; clear hx'
  go_wp2_with (first | (go_at_call 56; (with_reducible refine (Calls.ext (may_is _ _ _ h1 _)).mono ?_); rintro _ _ ⟨rfl, _, rfl⟩) | (go_at_call 56; (with_reducible refine (Calls.ext (may_is _ _ _ h2 _)).mono ?_); rintro _ _ ⟨rfl, _, rfl⟩))
  refine bodyPost_ret (v := .tuple #[.agg #[.int .u8 0, .int .u32 0], .int .i64 8]) (by simp [results, Try.results23, go_sem, p4, p5]) rfl ⟨rfl, ?_⟩
  exact ((ext_below B _).setCell (by simp; omega) _).setCell (by simp; omega) _

theorem rjoin_bad (l c m d : Int) (w : World) (hk : ¬ (l ≤ 15 ∧ m ≤ 15)) :
    Calls Try.prog 23 #[.agg #[.int .u8 l, .int .u32 c], .agg #[.int .u8 m, .int .u32 d]] w fun e w' => e = .returned (.tuple #[.agg #[.int .u8 0, .int .u32 0], .int .i64 8]) ∧ Below w.heap.size w w' := by
  by_cases h : l ≤ 15
  · exact rjoin_bad2 l c m d w h (fun hm => hk ⟨h, hm⟩)
  · exact rjoin_bad1 l c m d w h

set_option maxRecDepth 100000 in
set_option maxHeartbeats 1000000 in
theorem rmeet_ok (l c m d : Int) (w : World) (hl : l ≤ 15) (hm : m ≤ 15) (bc : U32 c) (bd : U32 d) :
    Calls Try.prog 24 #[.agg #[.int .u8 l, .int .u32 c], .agg #[.int .u8 m, .int .u32 d]] w fun e w' => e = .returned (.tuple #[.agg #[.int .u8 (loI l m), .int .u32 (bits .and .u32 c d)], .int .i64 0]) ∧ Below w.heap.size w w' := by
  have h1 : mayB l = true := by simp [mayB]; omega
  have h2 : mayB m = true := by simp [mayB]; omega
  go_enter Try.func24, Try.ntmps24
  go_wp2_with fail
  obtain ⟨B, p0, p1, p2, p3, p4, p5, f4, f5, hs⟩ := threeW_ext w l c m d _ rfl
  generalize (World.alloc (World.alloc (World.alloc w _) _) _) = W at B p0 p1 p2 p3 p4 p5 f4 f5 hs ⊢
  obtain ⟨x, hx'⟩ := ext_at W
  rw [hx']; clear hx'
  go_wp2_with (first | (go_at_call 56; (with_reducible refine (Calls.ext (may_is _ _ _ h1 _)).mono ?_); rintro _ _ ⟨rfl, _, rfl⟩) | (go_at_call 56; (with_reducible refine (Calls.ext (may_is _ _ _ h2 _)).mono ?_); rintro _ _ ⟨rfl, _, rfl⟩) | (go_at_call 57; (with_reducible refine (Calls.ext (rput_and _ _ _ _ _ bc bd)).mono ?_); rintro _ _ ⟨rfl, _, rfl⟩))
  refine bodyPost_ret (v := .tuple #[.agg #[.int .u8 (loI l m), .int .u32 (bits .and .u32 c d)], .int .i64 0]) (by simp [results, Try.results24, go_sem, p4, p5]) rfl ⟨rfl, ?_⟩
  exact ((ext_below B _).setCell (by simp; omega) _).setCell (by simp; omega) _

set_option maxRecDepth 100000 in
set_option maxHeartbeats 1000000 in
theorem rmeet_bad1 (l c m d : Int) (w : World) (hl : ¬ l ≤ 15) :
    Calls Try.prog 24 #[.agg #[.int .u8 l, .int .u32 c], .agg #[.int .u8 m, .int .u32 d]] w fun e w' => e = .returned (.tuple #[.agg #[.int .u8 0, .int .u32 0], .int .i64 8]) ∧ Below w.heap.size w w' := by
  have h1 : mayB l = false := by simp [mayB]; omega
  go_enter Try.func24, Try.ntmps24
  go_wp2_with fail
  obtain ⟨B, p0, p1, p2, p3, p4, p5, f4, f5, hs⟩ := threeW_ext w l c m d _ rfl
  generalize (World.alloc (World.alloc (World.alloc w _) _) _) = W at B p0 p1 p2 p3 p4 p5 f4 f5 hs ⊢
  obtain ⟨x, hx'⟩ := ext_at W
  rw [hx']; clear hx'
  go_wp2_with ((go_at_call 56; (with_reducible refine (Calls.ext (may_is _ _ _ h1 _)).mono ?_); rintro _ _ ⟨rfl, _, rfl⟩))
  refine bodyPost_ret (v := .tuple #[.agg #[.int .u8 0, .int .u32 0], .int .i64 8]) (by simp [results, Try.results24, go_sem, p4, p5]) rfl ⟨rfl, ?_⟩
  exact ((ext_below B _).setCell (by simp; omega) _).setCell (by simp; omega) _

set_option maxRecDepth 100000 in
set_option maxHeartbeats 1000000 in
theorem rmeet_bad2 (l c m d : Int) (w : World) (hl : l ≤ 15) (hm : ¬ m ≤ 15) :
    Calls Try.prog 24 #[.agg #[.int .u8 l, .int .u32 c], .agg #[.int .u8 m, .int .u32 d]] w fun e w' => e = .returned (.tuple #[.agg #[.int .u8 0, .int .u32 0], .int .i64 8]) ∧ Below w.heap.size w w' := by
  have h1 : mayB l = true := by simp [mayB]; omega
  have h2 : mayB m = false := by simp [mayB]; omega
  go_enter Try.func24, Try.ntmps24
  go_wp2_with fail
  obtain ⟨B, p0, p1, p2, p3, p4, p5, f4, f5, hs⟩ := threeW_ext w l c m d _ rfl
  generalize (World.alloc (World.alloc (World.alloc w _) _) _) = W at B p0 p1 p2 p3 p4 p5 f4 f5 hs ⊢
  obtain ⟨x, hx'⟩ := ext_at W
  rw [hx']; clear hx'
  go_wp2_with (first | (go_at_call 56; (with_reducible refine (Calls.ext (may_is _ _ _ h1 _)).mono ?_); rintro _ _ ⟨rfl, _, rfl⟩) | (go_at_call 56; (with_reducible refine (Calls.ext (may_is _ _ _ h2 _)).mono ?_); rintro _ _ ⟨rfl, _, rfl⟩))
  refine bodyPost_ret (v := .tuple #[.agg #[.int .u8 0, .int .u32 0], .int .i64 8]) (by simp [results, Try.results24, go_sem, p4, p5]) rfl ⟨rfl, ?_⟩
  exact ((ext_below B _).setCell (by simp; omega) _).setCell (by simp; omega) _

theorem rmeet_bad (l c m d : Int) (w : World) (hk : ¬ (l ≤ 15 ∧ m ≤ 15)) :
    Calls Try.prog 24 #[.agg #[.int .u8 l, .int .u32 c], .agg #[.int .u8 m, .int .u32 d]] w fun e w' => e = .returned (.tuple #[.agg #[.int .u8 0, .int .u32 0], .int .i64 8]) ∧ Below w.heap.size w w' := by
  by_cases h : l ≤ 15
  · exact rmeet_bad2 l c m d w h (fun hm => hk ⟨h, hm⟩)
  · exact rmeet_bad1 l c m d w h

end Go.Proofs.Ytaloeaihnkkfeaa
