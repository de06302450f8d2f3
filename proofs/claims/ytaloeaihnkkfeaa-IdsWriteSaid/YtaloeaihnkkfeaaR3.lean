import Derived.Test.YtaloeaihnkkfeaaR2
namespace Go.Proofs.Ytaloeaihnkkfeaa
open Go.RowKit

/-- The four blocks of one call of the reference's Put, at the world w' (w: the world at the call). -/
structure PutAt (w w' : World) (l c m d r0 r1 x y : Int) : Prop where
  below : Below w.heap.size w w'
  size : w.heap.size + 3 < w'.heap.size
  a : w'.heap[w.heap.size]? = some (.cells #[.int .u8 l, .int .u32 c] 24)
  b : w'.heap[w.heap.size + 1]? = some (.cells #[.int .u8 m, .int .u32 d] 24)
  r : w'.heap[w.heap.size + 1 + 1]? = some (.cells #[.int .u8 r0, .int .u32 r1] 24)
  x : w'.heap[w.heap.size + 1 + 1 + 1]? = some (.cells #[.int .u8 x, .int .u32 y] 24)

theorem PutAt.start (w : World) (l c m d : Int) : ∀ W, W = ((((w.alloc (.cells #[.int .u8 l, .int .u32 c] 24)).alloc (.cells #[.int .u8 m, .int .u32 d] 24)).alloc (.cells #[.int .u8 0, .int .u32 0] 24)).alloc (.cells #[.int .u8 0, .int .u32 0] 24)) → PutAt w W l c m d 0 0 0 0 := by
  rintro W rfl
  refine ⟨below_alloc (below_alloc (below_alloc (below_alloc (Below.refl _ _) _) _) _) _, ?_, ?_, ?_, ?_, ?_⟩
  · simp
  · show ((((w.heap.push _).push _).push _).push _)[w.heap.size]? = _
    simp only [Array.getElem?_push, Array.size_push]; simp; rw [if_neg (by omega), if_neg (by omega)]
  · show ((((w.heap.push _).push _).push _).push _)[w.heap.size + 1]? = _
    simp only [Array.getElem?_push, Array.size_push]; simp
  · show ((((w.heap.push _).push _).push _).push _)[w.heap.size + 1 + 1]? = _
    simp only [Array.getElem?_push, Array.size_push]; simp
  · show ((((w.heap.push _).push _).push _).push _)[w.heap.size + 1 + 1 + 1]? = _
    simp only [Array.getElem?_push, Array.size_push]; simp

theorem PutAt.grow {w W w1 : World} {l c m d r0 r1 x y : Int} (h : PutAt w W l c m d r0 r1 x y) (hb : Below W.heap.size W w1) : PutAt w w1 l c m d r0 r1 x y := by
  have := h.size
  have := h.below.size
  have := hb.size
  exact ⟨h.below.trans (hb.mono (by omega)), by omega, by rw [hb.block _ (by omega)]; exact h.a, by rw [hb.block _ (by omega)]; exact h.b,
    by rw [hb.block _ (by omega)]; exact h.r, by rw [hb.block _ (by omega)]; exact h.x⟩

theorem PutAt.setY {w W : World} {l c m d r0 r1 x y : Int} (h : PutAt w W l c m d r0 r1 x y) (y' : Int) : PutAt w (W.setCell ⟨w.heap.size + 1 + 1 + 1, 1, none⟩ (.int .u32 y')) l c m d r0 r1 x y' := by
  refine ⟨h.below.setCell (by simp; omega) _, by have := h.size; simpa [World.setCell] using this, ?_, ?_, ?_, ?_⟩
  · rw [Below.heap_setCell _ _ _ _ (by simp; omega)]; exact h.a
  · rw [Below.heap_setCell _ _ _ _ (by simp)]; exact h.b
  · rw [Below.heap_setCell _ _ _ _ (by simp)]; exact h.r
  · simp only [World.setCell, Array.getElem?_modify]; rw [if_pos trivial, h.x]; rfl
theorem PutAt.setX {w W : World} {l c m d r0 r1 x y : Int} (h : PutAt w W l c m d r0 r1 x y) (x' : Int) : PutAt w (W.setCell ⟨w.heap.size + 1 + 1 + 1, 0, none⟩ (.int .u8 x')) l c m d r0 r1 x' y := by
  refine ⟨h.below.setCell (by simp; omega) _, by have := h.size; simpa [World.setCell] using this, ?_, ?_, ?_, ?_⟩
  · rw [Below.heap_setCell _ _ _ _ (by simp; omega)]; exact h.a
  · rw [Below.heap_setCell _ _ _ _ (by simp)]; exact h.b
  · rw [Below.heap_setCell _ _ _ _ (by simp)]; exact h.r
  · simp only [World.setCell, Array.getElem?_modify]; rw [if_pos trivial, h.x]; rfl
theorem PutAt.setR {w W : World} {l c m d r0 r1 x y : Int} (h : PutAt w W l c m d r0 r1 x y) (x' y' : Int) : PutAt w ((W.setCell ⟨w.heap.size + 1 + 1, 0, none⟩ (.int .u8 x')).setCell ⟨w.heap.size + 1 + 1, 1, none⟩ (.int .u32 y')) l c m d x' y' x y := by
  refine ⟨(h.below.setCell (by simp; omega) _).setCell (by simp; omega) _, by have := h.size; simpa [World.setCell] using this, ?_, ?_, ?_, ?_⟩
  · rw [Below.heap_setCell _ _ _ _ (by simp; omega), Below.heap_setCell _ _ _ _ (by simp; omega)]; exact h.a
  · rw [Below.heap_setCell _ _ _ _ (by simp), Below.heap_setCell _ _ _ _ (by simp)]; exact h.b
  · simp only [World.setCell, Array.getElem?_modify]; rw [if_pos trivial, if_pos trivial, h.r]; rfl
  · rw [Below.heap_setCell _ _ _ _ (by simp), Below.heap_setCell _ _ _ _ (by simp)]; exact h.x

theorem PutAt.cells {w W : World} {l c m d r0 r1 x y : Int} (h : PutAt w W l c m d r0 r1 x y) :
    W.cell? ⟨w.heap.size, 0, none⟩ = some (.int .u8 l) ∧ W.cell? ⟨w.heap.size, 1, none⟩ = some (.int .u32 c) ∧
    W.cell? ⟨w.heap.size + 1, 0, none⟩ = some (.int .u8 m) ∧ W.cell? ⟨w.heap.size + 1, 1, none⟩ = some (.int .u32 d) ∧
    W.cell? ⟨w.heap.size + 1 + 1, 0, none⟩ = some (.int .u8 r0) ∧ W.cell? ⟨w.heap.size + 1 + 1, 1, none⟩ = some (.int .u32 r1) ∧
    W.cell? ⟨w.heap.size + 1 + 1 + 1, 0, none⟩ = some (.int .u8 x) ∧ W.cell? ⟨w.heap.size + 1 + 1 + 1, 1, none⟩ = some (.int .u32 y) ∧
    W.frozen? ⟨w.heap.size + 1 + 1, 0, none⟩ = false ∧ W.frozen? ⟨w.heap.size + 1 + 1, 1, none⟩ = false ∧ W.frozen? ⟨w.heap.size + 1 + 1 + 1, 0, none⟩ = false ∧ W.frozen? ⟨w.heap.size + 1 + 1 + 1, 1, none⟩ = false := by
  have ha := h.a
  have hb := h.b
  have hr := h.r
  have he := h.x
  refine ⟨?_, ?_, ?_, ?_, ?_, ?_, ?_, ?_, ?_, ?_, ?_, ?_⟩ <;> simp [World.cell?, World.frozen?, ha, hb, hr, he]

/-- The relation's last limb. -/
def PutIn (w wr : World) (l c m d y : Int) : Prop := ∃ (V : World) (X : Ext V), wr = X.at' ∧ PutAt w V l c m d 0 0 0 y
theorem PutIn.mk {w E : World} {l c m d y : Int} (h : PutAt w E l c m d 0 0 0 y) : PutIn w E l c m d y := ⟨E, ⟨E, Below.refl _ _⟩, rfl, h⟩

def bitAt (k : Nat) : Int := if k < 32 then ((2 ^ k : Nat) : Int) else 0
def accAt (V k : Nat) : Int := ((V % 2 ^ k : Nat) : Int)
theorem acc_zero (V : Nat) : accAt V 0 = 0 := by simp [accAt, Nat.mod_one]
theorem acc_succ (V k : Nat) (hk : k < 32) : accAt V (k + 1) = accAt V k + if V.testBit k then bitAt k else 0 := by
  unfold accAt bitAt
  rw [if_pos hk, Nat.mod_pow_succ, Nat.testBit_eq_decide_div_mod_eq]
  rcases Nat.mod_two_eq_zero_or_one (V / 2 ^ k) with h | h <;> simp [h]
theorem bit_bounds (k : Nat) (hk : k < 32) : 1 ≤ bitAt k ∧ bitAt k ≤ 2147483648 := by
  unfold bitAt; rw [if_pos hk]
  have := Nat.pow_le_pow_right (n := 2) (by omega) (show k ≤ 31 by omega)
  have := Nat.one_le_two_pow (n := k)
  omega
theorem acc_bounds (V k : Nat) (hk : k < 32) : 0 ≤ accAt V k ∧ accAt V k < bitAt k := by
  unfold accAt bitAt; rw [if_pos hk]
  have := Nat.mod_lt V (show 2 ^ k > 0 from Nat.pow_pos (by omega))
  omega
theorem acc_end (V : Nat) (h : V < 4294967296) : accAt V 32 = V := by
  unfold accAt; rw [Nat.mod_eq_of_lt (by simpa using h)]
theorem bit_succ (k : Nat) (hk : k < 31) : bitAt k * 2 = bitAt (k + 1) ∧ bitAt k ≤ 1073741824 := by
  unfold bitAt; rw [if_pos (by omega), if_pos (by omega)]
  have := Nat.pow_le_pow_right (n := 2) (by omega) (show k ≤ 30 by omega)
  have : (2 : Nat) ^ (k + 1) = 2 ^ k * 2 := Nat.pow_succ 2 k
  omega

end Go.Proofs.Ytaloeaihnkkfeaa
