import Derived.Test.YtaloeaihnkkfeaaW3
import Derived.Test.YtaloeaihnkkfeaaP1
namespace Go.Proofs.Ytaloeaihnkkfeaa
open Go.RowKit

/-- The region, from a world that extends W. -/
theorem wp_region_extW {P : Program} {id : Nat} {Q : Exit → Act → World → Prop} {a : Act} {W : World} {x : Ext W} {l : List Oper} (hm : P.follows .mixedOrders = true) (hB : Region.lexB .any l.toArray = true)
    (h : wpQuiet P l.toArray (fun w' => ∃ y : Ext W, w' = y.at') (fun a' => ∀ w', (∃ y : Ext W, w' = y.at') → Q .normal a' w') l a) : (Code.region id l.toArray true).wp P Q a x.at' :=
  wp_region_quiet (C := fun w' => ∃ y : Ext W, w' = y.at') hm hB ⟨⟨x.at'.drew, x.below.drew⟩, rfl⟩ (by simpa using h)

/-- Two labels held against each other. -/
def eqL (l c m d : Int) : Bool := l == m && c == d
theorem run_eqL (l c m d : Int) (w : World) : (binOp .eql 24 (.agg #[.int .u8 l, .int .u32 c]) (.agg #[.int .u8 m, .int .u32 d])).run Try.prog w = .ok (.bool (eqL l c m d)) w := by
  unfold eqL
  by_cases h : l = m
  · subst h
    by_cases h2 : c = d
    · subst h2; simp [go_sem]
    · have h' : (c == d) = false := by simpa using h2
      simp [go_sem, h2]
  · have h' : (l == m) = false := by simpa using h
    simp [go_sem, h']
theorem run_neL (l c m d : Int) (w : World) : (binOp .neq 24 (.agg #[.int .u8 l, .int .u32 c]) (.agg #[.int .u8 m, .int .u32 d])).run Try.prog w = .ok (.bool (!eqL l c m d)) w := by
  unfold eqL
  by_cases h : l = m
  · subst h
    by_cases h2 : c = d
    · subst h2; simp [go_sem]
    · have h' : (c == d) = false := by simpa using h2
      simp [go_sem, h2]
  · have h' : (l == m) = false := by simpa using h
    simp [go_sem, h']
theorem run_eq_is (l c m d : Int) (r : Bool) (h : eqL l c m d = r) : ∀ w, (binOp .eql 24 (.agg #[.int .u8 l, .int .u32 c]) (.agg #[.int .u8 m, .int .u32 d])).run Try.prog w = .ok (.bool r) w := by
  subst h; exact run_eqL l c m d

/-- Two cells of block p, in every world that extends W. -/
structure Two (W : World) (p : Nat) (x y : Value) : Prop where
  c0 : ∀ X : Ext W, X.at'.cell? ⟨p, 0, none⟩ = some x
  c1 : ∀ X : Ext W, X.at'.cell? ⟨p, 1, none⟩ = some y
  lt : ∀ X : Ext W, p < X.at'.heap.size
theorem Two.new (W : World) (x y : Value) (t : TypeId) : Two (W.alloc (.cells #[x, y] t)) W.heap.size x y :=
  ⟨ext_cell (two_new W x y t).1, ext_cell (two_new W x y t).2, fun X => by have := X.below.size; simp at this; omega⟩
theorem Two.up {W W1 : World} {p : Nat} {x y : Value} (h : Two W p x y) (hb : Below W.heap.size W W1) : Two W1 p x y :=
  ⟨fun X => h.c0 ⟨X.at', below_next hb X.below⟩, fun X => h.c1 ⟨X.at', below_next hb X.below⟩, fun X => h.lt ⟨X.at', below_next hb X.below⟩⟩
theorem below_alloc {w W : World} (hb : Below w.heap.size w W) (o : Obj) : Below w.heap.size w (W.alloc o) := hb.alloc hb.size o
theorem Two.alloc {W : World} {p : Nat} {x y : Value} (h : Two W p x y) (o : Obj) : Two (W.alloc o) p x y := h.up (below_alloc (Below.refl _ _) o)
theorem ext_below {w W : World} (hb : Below w.heap.size w W) (x : Ext W) : Below w.heap.size w x.at' := below_next hb x.below

abbrev JoinIs (f : Nat) (l c m d x y k : Int) : Prop := ∀ w : World, Calls Try.prog f #[.agg #[.int .u8 l, .int .u32 c], .agg #[.int .u8 m, .int .u32 d]] w
      fun e w' => e = .returned (.tuple #[.agg #[.int .u8 x, .int .u32 y], .int .i64 k]) ∧ Below w.heap.size w w'

/-- Three labels boxed. -/
theorem box3 (w : World) (l c m d k e : Int) : ∀ W, W = ((w.alloc (.cells #[.int .u8 l, .int .u32 c] 24)).alloc (.cells #[.int .u8 m, .int .u32 d] 24)).alloc (.cells #[.int .u8 k, .int .u32 e] 24) →
    Below w.heap.size w W ∧ Two W w.heap.size (.int .u8 l) (.int .u32 c) ∧ Two W (w.heap.size + 1) (.int .u8 m) (.int .u32 d) ∧ Two W (w.heap.size + 1 + 1) (.int .u8 k) (.int .u32 e) := by
  rintro W rfl
  refine ⟨below_alloc (below_alloc (below_alloc (Below.refl _ _) _) _) _, ?_, ?_, ?_⟩
  · exact ((Two.new w _ _ 24).alloc _).alloc _
  · have := (Two.new (w.alloc (.cells #[.int .u8 l, .int .u32 c] 24)) (.int .u8 m) (.int .u32 d) 24).alloc (.cells #[.int .u8 k, .int .u32 e] 24)
    simpa using this
  · have := Two.new ((w.alloc (.cells #[.int .u8 l, .int .u32 c] 24)).alloc (.cells #[.int .u8 m, .int .u32 d] 24)) (.int .u8 k) (.int .u32 e) 24
    simpa using this

end Go.Proofs.Ytaloeaihnkkfeaa
