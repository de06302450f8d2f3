import Derived.Test.YtaloeaihnkkfeaaW2
namespace Go.Proofs.Ytaloeaihnkkfeaa
open Go.RowKit

theorem run_ne_is (l c m d : Int) (E : Bool) (h : eqL l c m d = E) : ∀ w, (binOp .neq 24 (.agg #[.int .u8 l, .int .u32 c]) (.agg #[.int .u8 m, .int .u32 d])).run Try.prog w = .ok (.bool (!E)) w := by
  subst h; exact run_neL l c m d

theorem order_all (l c m d k e : Int) (w : World) (_bl : 0 ≤ l ∧ l ≤ 255) (bc : U32 c) (_bm : 0 ≤ m ∧ m ≤ 255) (bd : U32 d) (_bk : 0 ≤ k ∧ k ≤ 255) (be : U32 e) :
    Calls Try.prog 4 #[.agg #[.int .u8 l, .int .u32 c], .agg #[.int .u8 m, .int .u32 d], .agg #[.int .u8 k, .int .u32 e]] w fun e w' => e = .returned (.bool true) ∧ Below w.heap.size w w' := by
  refine order_walk l c m d k e _ w (leqB l c m d) (leqB m d l c) (leqB m d k e) (leqB l c k e) (eqL l c m d) ?_ ?_ (leqB_refl l c bc) rfl rfl rfl rfl (run_ne_is _ _ _ _ _ rfl) ?_ rfl ?_
  · cases p : leqB l c m d
    · exact .inl rfl
    · cases q : leqB m d l c
      · cases r : leqB m d k e
        · exact .inr (.inl ⟨rfl, rfl, rfl⟩)
        · exact .inr (.inr (.inl ⟨rfl, rfl, rfl, leqB_trans l c m d k e bc bd be p r⟩))
      · obtain ⟨rfl, rfl⟩ := leqB_anti l c m d bc bd p q
        have hE : eqL l c l c = true := by simp [eqL]
        cases r : leqB l c k e
        · exact .inr (.inr (.inr (.inl ⟨rfl, rfl, hE, rfl⟩)))
        · exact .inr (.inr (.inr (.inr ⟨rfl, rfl, hE, rfl, rfl⟩)))
  · unfold chk; split <;> simp
  · rw [leqB_eq, lq_zero c bc]; simp; omega
  · intro h
    have : l ≤ 15 := by unfold chk at h; split at h <;> omega
    rw [leqB_eq, lq_top c bc]; simp; omega

end Go.Proofs.Ytaloeaihnkkfeaa
