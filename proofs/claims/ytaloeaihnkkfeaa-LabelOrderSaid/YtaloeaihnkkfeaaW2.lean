import Derived.Test.YtaloeaihnkkfeaaB1
namespace Go.Proofs.Ytaloeaihnkkfeaa
open Go.RowKit

set_option maxRecDepth 100000 in
set_option maxHeartbeats 4000000 in
theorem order_walk (l c m d k e K : Int) (w : World) (p q r s E : Bool)
    (hcase : p = false ∨ (p = true ∧ q = false ∧ r = false) ∨ (p = true ∧ q = false ∧ r = true ∧ s = true) ∨ (p = true ∧ q = true ∧ E = true ∧ r = false) ∨ (p = true ∧ q = true ∧ E = true ∧ r = true ∧ s = true))
    (hK : K = 0 ∨ K = 8) (haa : leqB l c l c = true) (hp : leqB l c m d = p) (hq : leqB m d l c = q) (hr : leqB m d k e = r) (hs : leqB l c k e = s)
    (e1 : ∀ w, (binOp .neq 24 (.agg #[.int .u8 l, .int .u32 c]) (.agg #[.int .u8 m, .int .u32 d])).run Try.prog w = .ok (.bool (!E)) w)
    (h0 : leqB 0 0 l c = true) (hck : chk l = K) (hg : Hid (K = 0 → leqB l c 15 4294967295 = true)) :
    Calls Try.prog 4 #[.agg #[.int .u8 l, .int .u32 c], .agg #[.int .u8 m, .int .u32 d], .agg #[.int .u8 k, .int .u32 e]] w fun e w' => e = .returned (.bool true) ∧ Below w.heap.size w w' := by
  go_enter Try.func4, Try.ntmps4
  go_wp2_with fail
  obtain ⟨B, TA, TB, TC⟩ := box3 w l c m d k e _ rfl
  generalize (World.alloc (World.alloc (World.alloc w _) _) _) = W at B TA TB TC ⊢
  obtain ⟨x, hx'⟩ := ext_at W
  rw [hx']; clear hx'
  (with_reducible refine (Calls.ext (alive1_any _)).mono ?_); rintro _ _ ⟨rfl, y, rfl⟩
  obtain ⟨a0, a1, a2⟩ := TA
  obtain ⟨b0, b1, b2⟩ := TB
  obtain ⟨c0, c1, c2⟩ := TC
  have hne := ext_ne W
  rcases hcase with rfl | ⟨rfl, rfl, rfl⟩ | ⟨rfl, rfl, rfl, rfl⟩ | ⟨rfl, rfl, rfl, rfl⟩ | ⟨rfl, rfl, rfl, rfl, rfl⟩
  all_goals
    go_wp2_with (first | (go_at_call 18; (with_reducible refine (Calls.ext (leq_is _ _ _ _ _ haa _)).mono ?_); rintro _ _ ⟨rfl, _, rfl⟩) | (go_at_call 18; (with_reducible refine (Calls.ext (leq_is _ _ _ _ _ hp _)).mono ?_); rintro _ _ ⟨rfl, _, rfl⟩) | (go_at_call 18; (with_reducible refine (Calls.ext (leq_is _ _ _ _ _ hq _)).mono ?_); rintro _ _ ⟨rfl, _, rfl⟩) | (go_at_call 18; (with_reducible refine (Calls.ext (leq_is _ _ _ _ _ hr _)).mono ?_); rintro _ _ ⟨rfl, _, rfl⟩) | (go_at_call 18; (with_reducible refine (Calls.ext (leq_is _ _ _ _ _ hs _)).mono ?_); rintro _ _ ⟨rfl, _, rfl⟩))
    rcases hK with rfl | rfl
    · have hgg := hg.out rfl
      refine wp_region_extW (by kernel_rfl) (by kernel_rfl) ?_
      repeat (go_big_quiet_step (first | (go_at_call 18; with_reducible exact Calls.ext (leq_is _ _ _ _ _ h0 _)) | (go_at_call 18; with_reducible exact Calls.ext (leq_is _ _ _ _ _ hgg _)) | (go_at_call 17; with_reducible exact Calls.ext (check_is _ _ _ hck _)) | (go_at_call 19; with_reducible exact Calls.ext (least_any _)) | (go_at_call 20; with_reducible exact Calls.ext (greatest_any _))))
      refine wpQuiet_nil ?_
      rintro _ ⟨xx, rfl⟩
      go_wp2
      go_ret
      exact ⟨rfl, ext_below B _⟩
    · refine wp_region_extW (by kernel_rfl) (by kernel_rfl) ?_
      repeat (go_big_quiet_step (first | (go_at_call 18; with_reducible exact Calls.ext (leq_is _ _ _ _ _ h0 _)) | (go_at_call 17; with_reducible exact Calls.ext (check_is _ _ _ hck _)) | (go_at_call 19; with_reducible exact Calls.ext (least_any _)) | (go_at_call 20; with_reducible exact Calls.ext (greatest_any _))))
      refine wpQuiet_nil ?_
      rintro _ ⟨xx, rfl⟩
      go_wp2
      go_ret
      exact ⟨rfl, ext_below B _⟩

end Go.Proofs.Ytaloeaihnkkfeaa
