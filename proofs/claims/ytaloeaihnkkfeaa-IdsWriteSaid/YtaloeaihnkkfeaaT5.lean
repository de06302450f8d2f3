import Derived.Test.YtaloeaihnkkfeaaT4
import Derived.Deep.QuietTactic
import Derived.BigQuiet
namespace Go.Proofs.Ytaloeaihnkkfeaa
open Go.RowKit

/-- A world that extends w: new blocks alone. -/
structure Ext (w : World) where
  at' : World
  below : Below w.heap.size w at'

theorem ext_ne (w : World) : Nonempty (Ext w) := ⟨⟨w, Below.refl _ _⟩⟩

/-- A region that draws its order, each of whose operations yields one value in every world that extends w, and leaves such a world: one walk, in the order of the text. -/
theorem wp_region_ext {P : Program} {id : Nat} {Q : Exit → Act → World → Prop} {a : Act} {w : World} {l : List Oper} (hm : P.follows .mixedOrders = true) (hB : Region.lexB .any l.toArray = true)
    (h : wpQuiet P l.toArray (fun w' => ∃ x : Ext w, w' = x.at') (fun a' => ∀ w', (∃ x : Ext w, w' = x.at') → Q .normal a' w') l a) : (Code.region id l.toArray true).wp P Q a w :=
  wp_region_quiet (C := fun w' => ∃ x : Ext w, w' = x.at') hm hB ⟨⟨w.drew, (Below.refl _ _).drew⟩, rfl⟩ (by simpa using h)

theorem Calls.ext {P : Program} {f : FuncId} {args : Array Value} {w : World} {x : Ext w} {v : Value}
    (h : Calls P f args x.at' fun e w' => e = .returned v ∧ Below x.at'.heap.size x.at' w') : Calls P f args x.at' fun e w'' => e = .returned v ∧ ∃ y : Ext w, w'' = y.at' :=
  h.mono fun _ w' ⟨he, hb⟩ => ⟨he, ⟨w', x.below.trans (hb.mono x.below.size)⟩, rfl⟩

theorem ext_cell {W : World} {p : Addr} {v : Value} (h : W.cell? p = some v) (x : Ext W) : x.at'.cell? p = some v := by
  rw [x.below.cell (World.block_lt_of_cell? W _ h)]; exact h

theorem below_next {w W w1 : World} (hb : Below w.heap.size w W) (h1 : Below W.heap.size W w1) : Below w.heap.size w w1 := hb.trans (h1.mono hb.size)
theorem cell_next {W w1 : World} {p : Addr} {v : Value} (h1 : Below W.heap.size W w1) (h : W.cell? p = some v) : w1.cell? p = some v := by
  rw [h1.cell (World.block_lt_of_cell? W _ h)]; exact h
theorem two_new (w : World) (x y : Value) (t : TypeId) : (w.alloc (.cells #[x, y] t)).cell? ⟨w.heap.size, 0, none⟩ = some x ∧ (w.alloc (.cells #[x, y] t)).cell? ⟨w.heap.size, 1, none⟩ = some y := by
  constructor <;> simp [go_sem]
theorem cell_alloc {W : World} {p : Addr} {v : Value} (o : Obj) (h : W.cell? p = some v) : (W.alloc o).cell? p = some v := 
  cell_next ((Below.refl _ _).alloc (Nat.le_refl _) _) h

theorem leq_is (l c m d : Int) (r : Bool) (hr : leqB l c m d = r) (w : World) :
    Calls Try.prog 18 #[.agg #[.int .u8 l, .int .u32 c], .agg #[.int .u8 m, .int .u32 d]] w fun e w' => e = .returned (.bool r) ∧ Below w.heap.size w w' := by
  subst hr; exact leq_any l c m d w

theorem join_ex (w : World) : Calls Try.prog 15 #[.agg #[.int .u8 1, .int .u32 1], .agg #[.int .u8 0, .int .u32 2]] w
      fun e w' => e = .returned (.tuple #[.agg #[.int .u8 1, .int .u32 3], .int .i64 0]) ∧ Below w.heap.size w w' := join_ok 1 1 0 2 w (by decide) (by decide)
theorem meet_ex (w : World) : Calls Try.prog 16 #[.agg #[.int .u8 1, .int .u32 1], .agg #[.int .u8 0, .int .u32 3]] w
      fun e w' => e = .returned (.tuple #[.agg #[.int .u8 0, .int .u32 1], .int .i64 0]) ∧ Below w.heap.size w w' := meet_ok 1 1 0 3 w (by decide) (by decide)

set_option maxRecDepth 100000 in
set_option maxHeartbeats 1000000 in
theorem alive1_any (w : World) : Calls Try.prog 14 #[] w fun e w' => e = .returned (.bool true) ∧ Below w.heap.size w w' := by
  go_enter Try.func14, Try.ntmps14
  go_wp2_with fail
  (with_reducible refine (of_any _ _ _).mono ?_); rintro e w1 ⟨rfl, b1⟩
  go_wp2_with fail
  (with_reducible refine (of_any _ _ _).mono ?_); rintro e w2 ⟨rfl, b2⟩
  go_wp2_with fail
  (with_reducible refine (join_ex _).mono ?_); rintro e w3 ⟨rfl, b3⟩
  go_wp2_with fail
  (with_reducible refine (of_any _ _ _).mono ?_); rintro e w4 ⟨rfl, b4⟩
  go_wp2_with fail
  (with_reducible refine (of_any _ _ _).mono ?_); rintro e w5 ⟨rfl, b5⟩
  go_wp2_with fail
  (with_reducible refine (meet_ex _).mono ?_); rintro e w6 ⟨rfl, b6⟩
  go_wp2_with fail
  have B3 := below_next (below_next b1 b2) b3
  have B6 := below_next (below_next (below_next (B3.alloc B3.size _) b4) b5) b6
  have B := B6.alloc B6.size (.cells #[.int .u8 0, .int .u32 1] 24)
  obtain ⟨x0, x1⟩ := two_new w3 (.int .u8 1) (.int .u32 3) 24
  replace x0 := cell_alloc (.cells #[.int .u8 0, .int .u32 1] 24) (cell_next b6 (cell_next b5 (cell_next b4 x0)))
  replace x1 := cell_alloc (.cells #[.int .u8 0, .int .u32 1] 24) (cell_next b6 (cell_next b5 (cell_next b4 x1)))
  obtain ⟨y0, y1⟩ := two_new w6 (.int .u8 0) (.int .u32 1) 24
  generalize hW : w6.alloc (.cells #[.int .u8 0, .int .u32 1] 24) = W at B x0 x1 y0 y1 ⊢
  replace x0 := ext_cell x0
  replace x1 := ext_cell x1
  replace y0 := ext_cell y0
  replace y1 := ext_cell y1
  clear hW B6 B3 b1 b2 b3 b4 b5 b6
  have hne := ext_ne W
  refine wp_region_ext (by kernel_rfl) (by kernel_rfl) ?_
  repeat (go_big_quiet_step (first | (go_at_call 21; with_reducible exact Calls.ext (of_any _ _ _)) | (go_at_call 18; with_reducible exact Calls.ext (leq_is _ _ _ _ true (by decide +kernel) _)) | (go_at_call 18; with_reducible exact Calls.ext (leq_is _ _ _ _ false (by decide +kernel) _))))
  refine wpQuiet_nil ?_
  rintro _ ⟨x, rfl⟩
  go_wp2
  go_ret
  exact ⟨rfl, below_next B x.below⟩

end Go.Proofs.Ytaloeaihnkkfeaa
