import Derived.Test.YtaloeaihnkkfeaaS1
import Derived.Test.YtaloeaihnkkfeaaI5
namespace Go.Proofs.Ytaloeaihnkkfeaa
open Go.RowKit

theorem Try.info40 : (Try.prog.info? 40).map (fun i => (i.zero, i.size, i.bytes)) = some (some (.agg #[.int .u8 0, .int .u32 0, .int .u8 0, .int .i64 0]), 4, 24) := by kernel_rfl

/-- The cells of a span's first j ids. -/
def allC (l c n k : Int) : Nat → List Value
  | 0 => []
  | j + 1 => allC l c n k j ++ [.int .u8 l, .int .u32 c, .int .u8 n, .int .i64 (k + (j : Int))]
theorem allC_len (l c n k : Int) (j : Nat) : (allC l c n k j).length = j * 4 := by
  induction j with
  | zero => rfl
  | succ j ih => simp [allC, ih]; omega
theorem allC_at (l c n k : Int) (j i : Nat) (h : i < j) : (allC l c n k j)[i * 4]? = some (.int .u8 l) ∧ (allC l c n k j)[i * 4 + 1]? = some (.int .u32 c) ∧ (allC l c n k j)[i * 4 + 2]? = some (.int .u8 n) ∧ (allC l c n k j)[i * 4 + 3]? = some (.int .i64 (k + (i : Int))) := by
  induction j with
  | zero => omega
  | succ j ih =>
    have hl := allC_len l c n k j
    rw [allC]
    by_cases e : i < j
    · obtain ⟨h0, h1, h2, h3⟩ := ih e
      rw [List.getElem?_append_left (by omega), List.getElem?_append_left (by omega), List.getElem?_append_left (by omega), List.getElem?_append_left (by omega)]
      exact ⟨h0, h1, h2, h3⟩
    · obtain rfl : i = j := by omega
      rw [List.getElem?_append_right (by omega), List.getElem?_append_right (by omega), List.getElem?_append_right (by omega), List.getElem?_append_right (by omega), hl]
      refine ⟨?_, ?_, ?_, ?_⟩
      · simp
      · rw [show i * 4 + 1 - i * 4 = 1 by omega]; rfl
      · rw [show i * 4 + 2 - i * 4 = 2 by omega]; rfl
      · rw [show i * 4 + 3 - i * 4 = 3 by omega]; rfl

theorem own_next4 {W wr w1 : World} {v : Value} {j : Nat} {xs : List Value} {o : Obj} (hb : Below W.heap.size W wr) (hown : wr.ownsRow W.heap.size 40 4 v j xs)
    (hg : (wr.alloc o).grownBy w1 v.ownBlock) : Below W.heap.size W w1 :=
  (below_alloc hb o).grown hg (by have := hb.size; simp; omega) (fun g hg' => (World.ownsRow.lt hown g hg').1)

set_option maxRecDepth 100000 in
set_option maxHeartbeats 1000000 in
theorem all_any (l c n k : Int) (M : Nat) (w : World) (h1 : 1 ≤ k) (h2 : k ≤ 1099511627776) (hM : M ≤ 64) :
    Calls Try.prog 61 #[.agg #[.int .u8 l, .int .u32 c, .int .u8 n, .int .i64 k, .int .i64 M]] w fun e w' => ∃ v, e = .returned v ∧ w'.ownsRow w.heap.size 40 4 v M (allC l c n k M) ∧ Below w.heap.size w w' := by
  obtain ⟨i0, hi, hz0, hz1, hz2⟩ := info_parts Try.info40
  go_enter Try.func61, Try.ntmps61
  go_wp2
  have B := below_alloc (Below.refl w.heap.size w) (.cells #[.int .u8 l, .int .u32 c, .int .u8 n, .int .i64 k, .int .i64 M] 44)
  have HB := Blk.new w #[.int .u8 l, .int .u32 c, .int .u8 n, .int .i64 k, .int .i64 M] 44
  generalize (World.alloc w _) = W at B HB ⊢
  have hs := HB.lt'
  go_loopw [3, 4] (fun v i wr => ∃ j : Nat, j ≤ M ∧ i = .int .i64 j ∧ wr.ownsRow W.heap.size 40 4 v j (allC l c n k j) ∧ Below W.heap.size W wr) (fun _ i _ => M - (intOf i).toNat)
  case atStart => exact ⟨0, by omega, rfl, World.ownsRow_nil _ _ _ _, Below.refl _ _⟩
  case round =>
    obtain ⟨j, hj, rfl, hown, hb⟩ := hrel
    have H2 := HB.up hb
    have c0 := H2.here 0 rfl
    have c1 := H2.here 1 rfl
    have c2 := H2.here 2 rfl
    have c3 := H2.here 3 rfl
    have c4 := H2.here 4 rfl
    by_cases hlt : j < M
    · go_wp2_with (at_builtin; refine wpList_append_own _ rfl _ _ 84 rfl W.heap.size 40 i0 (.agg #[.int .u8 0, .int .u32 0, .int .u8 0, .int .i64 0]) 4 24 Try.underlying84 hi hz0 hz1 hz2 rfl (by decide) _ _ _ rfl (World.ownsRow.alloc hown _) ⟨wr.heap.size, 0, none⟩ 1 1 [.int .u8 l, .int .u32 c, .int .u8 n, .int .i64 (k + (j : Int))] rfl rfl ?c1 ?c2 ?c3 ?c4 ?c5 ?_)
      case c1 => exact World.news_of_block (cs := #[.int .u8 l, .int .u32 c, .int .u8 n, .int .i64 (k + (j : Int))]) (t := 40) (fr := (0, 0)) (heap_alloc_new wr _)
      case c2 => simp [Value.oneCell']
      case c3 => unfold maxLen; omega
      case c4 => omega
      case c5 => have := hb.size; simp; omega
      intro v' w1 hown' hgrow _
      have R := own_next4 hb hown hgrow
      clear hown hgrow c0 c1 c2 c3 c4 H2 hb
      go_wp2
      go_roundw
      case rel => exact ⟨j + 1, by omega, by go_num, hown', R⟩
      case measure => simp [intOf]; omega
    · obtain rfl : j = M := by omega
      go_wp2
      go_ret
      exact ⟨_, rfl, own_less hown (Nat.le_of_lt hs), below_next B hb⟩

/-- The ids of a span, all in block g. -/
structure AllAt (W : World) (g : Nat) (l c n k : Int) (M : Nat) : Prop where
  c0 : ∀ i, i < M → ∀ X : Ext W, X.at'.cell? ⟨g, i * 4, none⟩ = some (.int .u8 l)
  c1 : ∀ i, i < M → ∀ X : Ext W, X.at'.cell? ⟨g, i * 4 + 1, none⟩ = some (.int .u32 c)
  c2 : ∀ i, i < M → ∀ X : Ext W, X.at'.cell? ⟨g, i * 4 + 2, none⟩ = some (.int .u8 n)
  c3 : ∀ i, i < M → ∀ X : Ext W, X.at'.cell? ⟨g, i * 4 + 3, none⟩ = some (.int .i64 (k + (i : Int)))
theorem AllAt.up {W W1 : World} {g : Nat} {l c n k : Int} {M : Nat} (h : AllAt W g l c n k M) (hb : Below W.heap.size W W1) : AllAt W1 g l c n k M :=
  ⟨fun i hi X => h.c0 i hi ⟨X.at', below_next hb X.below⟩, fun i hi X => h.c1 i hi ⟨X.at', below_next hb X.below⟩, fun i hi X => h.c2 i hi ⟨X.at', below_next hb X.below⟩, fun i hi X => h.c3 i hi ⟨X.at', below_next hb X.below⟩⟩

theorem all_lit (l c n k m : Int) (w : World) (h1 : 1 ≤ k) (h2 : k ≤ 1099511627776) (h3 : 1 ≤ m) (hM : m ≤ 64) :
    Calls Try.prog 61 #[.agg #[.int .u8 l, .int .u32 c, .int .u8 n, .int .i64 k, .int .i64 m]] w fun e w' => ∃ g cap, e = .returned (.slice (some ⟨g, 0, none⟩) m.toNat cap) ∧ AllAt w' g l c n k m.toNat ∧ Below w.heap.size w w' ∧ w.heap.size ≤ g := by
  obtain ⟨M, rfl⟩ := Int.eq_ofNat_of_zero_le (show 0 ≤ m by omega)
  refine (all_any l c n k M w h1 h2 (by omega)).mono ?_
  rintro e w' ⟨v, rfl, hv, hb⟩
  obtain ⟨g, cap, rfl⟩ : ∃ g cap, v = .slice (some ⟨g, 0, none⟩) M cap := by
    rcases hv.2 with ⟨_, h⟩ | ⟨g, cap, cur, h, _⟩
    · omega
    · exact ⟨g, cap, h⟩
  have hlt := World.ownsRow.lt hv g rfl
  have hadd : ∀ i, (⟨g, 0, none⟩ : Addr).add i = ⟨g, i, none⟩ := fun i => by unfold Addr.add; split <;> simp_all
  have key : ∀ j u, (allC l c n k M)[j]? = some u → ∀ X : Ext w', X.at'.cell? ⟨g, j, none⟩ = some u := fun j u hu X => by
    rw [X.below.cell hlt.2, ← hadd j]; exact World.ownsRow.cells hv rfl j u hu
  exact ⟨g, cap, rfl, ⟨fun i hi => key _ _ (allC_at l c n k M i hi).1, fun i hi => key _ _ (allC_at l c n k M i hi).2.1, fun i hi => key _ _ (allC_at l c n k M i hi).2.2.1, fun i hi => key _ _ (allC_at l c n k M i hi).2.2.2⟩, hb, hlt.1⟩

end Go.Proofs.Ytaloeaihnkkfeaa
