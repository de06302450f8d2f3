import Derived.Test.YtaloeaihnkkfeaaI6
import Derived.Laws.BytesArg
namespace Go.Proofs.Ytaloeaihnkkfeaa
open Go.RowKit

theorem own_cell {W : World} {B g n cap : Nat} {xs : List Int} (h : OwnsB W B (.slice (some ⟨g, 0, none⟩) n cap) xs) (i : Nat) (hi : i < xs.length) : W.cell? ⟨g, i, none⟩ = some (.int .u8 (xs.getD i 0)) := by
  have := World.ownsRow.cells h (g := g) rfl i (.int .u8 (xs.getD i 0)) (by simp [List.getD, List.getElem?_eq_getElem hi])
  have e : (⟨g, 0, none⟩ : Addr).add i = ⟨g, i, none⟩ := by unfold Addr.add; split <;> simp_all
  rwa [e] at this
/-- string(b) of bytes that lie in W, in every world that extends it. -/
theorem conv_own {W : World} {B g n cap : Nat} {xs : List Int} (h : OwnsB W B (.slice (some ⟨g, 0, none⟩) n cap) xs) (hn : xs.length = n) (X : Ext W) :
    (convert 62 9 (.slice (some ⟨g, 0, none⟩) n cap)).run Try.prog X.at' = .ok (.string (strOfNums xs)) X.at' :=
  run_convert_bytes_arg X.at' 62 5 Try.underlying62 Try.underlying5 g 0 n cap xs hn (fun i hi => by rw [Nat.zero_add]; exact own_cell (own_keep h X.below) i (by omega)) 9 Try.underlying9

set_option maxRecDepth 100000 in
set_option maxHeartbeats 1000000 in
theorem alive5_any (w : World) : Calls Try.prog 29 #[] w fun e w' => e = .returned (.bool true) ∧ Below w.heap.size w w' := by
  go_enter Try.func29, Try.ntmps29
  go_wp2_with fail
  (with_reducible refine (by_any _ _ _ _).mono ?_); rintro _ w1 ⟨rfl, b1⟩
  go_wp2_with fail
  have B := below_alloc b1 (.cells #[.int .u8 1, .int .u32 1, .int .u8 2, .int .i64 9] 40)
  have HB := Blk.new w1 #[.int .u8 1, .int .u32 1, .int .u8 2, .int .i64 9] 40
  generalize hP : w1.heap.size = P at HB ⊢
  generalize (World.alloc w1 _) = W at B HB ⊢
  clear hP b1
  (with_reducible refine (put_ok 1 1 2 9 _ (by decide) (by decide) (by decide)).mono ?_); rintro _ V ⟨g, cap, rfl, ho, b2⟩
  replace B := below_next B b2
  replace HB := HB.up b2
  clear b2
  have hc := conv_own ho (iBytes_len _ _ _ _)
  rw [show strOfNums (iBytes 1 1 2 9) = ⟨#[1, 0, 0, 0, 1, 2, 0, 0, 0, 0, 0, 0, 9]⟩ by rfl] at hc
  clear ho
  obtain ⟨x, hx'⟩ := ext_at V
  rw [hx']; clear hx'
  have a0 := HB.at 0 rfl
  have a1 := HB.at 1 rfl
  have a2 := HB.at 2 rfl
  have a3 := HB.at 3 rfl
  have hne := ext_ne V
  clear HB
  go_wp2_with fail
  refine wp_region_extW (by kernel_rfl) (by kernel_rfl) ?_
  repeat (go_big_quiet_step (first | (go_at_call 52; with_reducible exact Calls.ext (by_any _ _ _ _)) | (go_at_call 30; with_reducible exact Calls.ext (less_is _ _ _ _ _ _ _ _ true (by decide +kernel) _)) | (go_at_call 30; with_reducible exact Calls.ext (less_is _ _ _ _ _ _ _ _ false (by decide +kernel) _))))
  refine wpQuiet_nil ?_
  rintro _ ⟨xx, rfl⟩
  go_wp2
  go_ret
  exact ⟨rfl, ext_below B _⟩

end Go.Proofs.Ytaloeaihnkkfeaa
