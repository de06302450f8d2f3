import Derived.Test.YtaloeaihnkkfeaaW4
import Derived.Test.YtaloeaihnkkfeaaX2
namespace Go.Proofs.Ytaloeaihnkkfeaa
open Go.RowKit

theorem eqL_iff (l c m d : Int) : eqL l c m d = true ↔ l = m ∧ c = d := by simp [eqL]
theorem ahead_all (l c m d k e : Int) (w : World) (_bl : 0 ≤ l ∧ l ≤ 255) (bc : U32 c) (_bm : 0 ≤ m ∧ m ≤ 255) (bd : U32 d) (_bk : 0 ≤ k ∧ k ≤ 255) (_be : U32 e) :
    Calls Try.prog 6 #[.agg #[.int .u8 l, .int .u32 c], .agg #[.int .u8 m, .int .u32 d], .agg #[.int .u8 k, .int .u32 e]] w fun e w' => e = .returned (.bool true) ∧ Below w.heap.size w w' := by
  refine ahead_walk l c m d k e w (aheadB l c m d) (aheadB m d l c) (aheadB m d k e) (aheadB l c k e) (leqB l c m d) (eqL l c m d) ?_ rfl rfl rfl rfl rfl (run_ne_is _ _ _ _ _ rfl) (run_eq_is _ _ _ _ _ rfl)
  have hE := eqL_iff l c m d
  have hx := ahead_iff l c m d
  have hy := ahead_iff m d l c
  have hr := ahead_iff m d k e
  have hs := ahead_iff l c k e
  have ht := leqB_ahead l c m d bc bd
  generalize eqL l c m d = E at *
  generalize aheadB l c m d = x at *
  generalize aheadB m d l c = y at *
  generalize aheadB m d k e = r at *
  generalize aheadB l c k e = s at *
  generalize leqB l c m d = t at *
  cases E <;> cases x <;> cases y <;> cases r <;> cases s <;> cases t <;> simp at * <;> omega

end Go.Proofs.Ytaloeaihnkkfeaa
