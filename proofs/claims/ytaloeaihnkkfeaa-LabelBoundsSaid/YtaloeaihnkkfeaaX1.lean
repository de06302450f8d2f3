import Derived.Test.YtaloeaihnkkfeaaW1
import Derived.Test.YtaloeaihnkkfeaaW5
namespace Go.Proofs.Ytaloeaihnkkfeaa
open Go.RowKit

theorem bounds_all (l c m d k e : Int) (w : World) (_bl : 0 ≤ l ∧ l ≤ 255) (bc : U32 c) (_bm : 0 ≤ m ∧ m ≤ 255) (bd : U32 d) (_bk : 0 ≤ k ∧ k ≤ 255) (be : U32 e) :
    Calls Try.prog 3 #[.agg #[.int .u8 l, .int .u32 c], .agg #[.int .u8 m, .int .u32 d], .agg #[.int .u8 k, .int .u32 e]] w fun e w' => e = .returned (.bool true) ∧ Below w.heap.size w w' := by
  by_cases h : l ≤ 15 ∧ m ≤ 15
  · obtain ⟨hl, hm⟩ := h
    have hor := or_u32 c d bc bd
    have hand := and_u32 c d bc bd
    refine bounds_ok l c m d k e (hiI l m) (bits .or .u32 c d) (loI l m) (bits .and .u32 c d) w (leqB l c k e) (leqB m d k e) (leqB k e l c) (leqB k e m d) (leqB l c m d) (leqB (hiI l m) (bits .or .u32 c d) k e) (leqB k e (loI l m) (bits .and .u32 c d))
      ?_ ?_ (fun w => join_ok l c m d w hl hm) (fun w => meet_ok l c m d w hl hm) rfl rfl rfl rfl rfl rfl rfl (leqB_joinl l c m d bc bd) (leqB_joinr l c m d bc bd) (leqB_meetl l c m d bc bd) (leqB_meetr l c m d bc bd) (run_eq_is _ _ _ _ _ (join_is l c m d bc bd)) (run_eq_is _ _ _ _ _ (meet_is l c m d bc bd))
    · rw [leqB_join l c m d k e bc bd be]
      cases leqB l c k e <;> cases leqB m d k e <;> simp
    · rw [leqB_meet l c m d k e bc bd be]
      cases leqB k e l c <;> cases leqB k e m d <;> simp
  · refine bounds_bad l c m d k e _ _ w ?_ (fun w => join_bad l c m d w h) (fun w => meet_bad l c m d w h) rfl rfl
    rcases chk_bad l m h with ⟨a, b⟩ | ⟨a, b⟩ | ⟨a, b⟩
    · exact .inl a
    · exact .inr ⟨a, b⟩
    · exact .inl a

end Go.Proofs.Ytaloeaihnkkfeaa
