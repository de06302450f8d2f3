import Derived.Test.YtaloeaihnkkfeaaRows
import Derived.WalkKit
import Derived.ProofKit
import Derived.OpenShut
import Derived.Below
import Derived.ChangeOld
import Derived.Lib.SmallJoins
namespace Go.Proofs.Ytaloeaihnkkfeaa
open Go.ChangeShapes Go.WideShapes Go.ChangeAt Go.RowKit Go.Joins

theorem Try.own : ownKnob Try.prog.godebug = none := by kernel_rfl
theorem Try.laidOut : laidOutB Try.prog = true := by kernel_rfl
theorem Try.cells24 : Try.prog.cellsOf 24 = 2 := by kernel_rfl
theorem Try.cells38 : Try.prog.cellsOf 38 = 3 := by kernel_rfl
theorem Try.cells40 : Try.prog.cellsOf 40 = 4 := by kernel_rfl
theorem Try.cells44 : Try.prog.cellsOf 44 = 5 := by kernel_rfl
theorem Try.cells5 : Try.prog.cellsOf 5 = 1 := by kernel_rfl
theorem Try.cells22 : Try.prog.cellsOf 22 = 1 := by kernel_rfl
theorem Try.cells3 : Try.prog.cellsOf 3 = 1 := by kernel_rfl

theorem array5 {α : Type} {cs : Array α} (h : cs.size = 5) : ∃ c0 c1 c2 c3 c4, cs = #[c0, c1, c2, c3, c4] := by
  obtain ⟨l⟩ := cs
  match l, h with
  | [c0, c1, c2, c3, c4], _ => exact ⟨c0, c1, c2, c3, c4, rfl⟩

section
variable {H : Type} {enc : TypeId × Value → H} {W : World} {base b0 : Nat} {spare : Nat → Bool} {held : Bool}

/-- A label's two cells. -/
theorem trod_label {fuel : Nat} {x0 x1 : Value} {y : DataW H × List MemPlace} (h : DataW.trod enc Try.prog W base spare held fuel 24 [x0, x1] = some y) :
    ∃ l c : Int, x0 = .int .u8 l ∧ x1 = .int .u32 c ∧ (0 ≤ l ∧ l ≤ 255) ∧ (0 ≤ c ∧ c < 4294967296) := by
  obtain ⟨y0, y1, n, _, _, h0, h1⟩ := trod_struct2 Try.underlying24 h
  simp [Try.cells5, Try.cells22] at h0 h1
  obtain ⟨a, e0, _, wa⟩ := DataW.trod_int Try.underlying5 h0
  obtain ⟨b, e1, _, wb⟩ := DataW.trod_int Try.underlying22 h1
  simp at e0 e1
  have := bounds_u8 wa
  have := bounds_u32 wb
  exact ⟨a, b, e0, e1, by omega, by omega⟩

theorem trod_handle {fuel : Nat} {x0 x1 x2 : Value} {y : DataW H × List MemPlace} (h : DataW.trod enc Try.prog W base spare held fuel 38 [x0, x1, x2] = some y) :
    ∃ l c n : Int, x0 = .int .u8 l ∧ x1 = .int .u32 c ∧ x2 = .int .u8 n ∧ (0 ≤ l ∧ l ≤ 255) ∧ (0 ≤ c ∧ c < 4294967296) ∧ (0 ≤ n ∧ n ≤ 255) := by
  obtain ⟨y0, y1, n, _, _, h0, h1⟩ := trod_struct2 Try.underlying38 h
  simp [Try.cells5, Try.cells24] at h0 h1
  obtain ⟨l, c, rfl, rfl, hl, hc⟩ := trod_label h0
  obtain ⟨a, e0, _, wa⟩ := DataW.trod_int Try.underlying5 h1
  simp at e0
  have := bounds_u8 wa
  exact ⟨l, c, a, rfl, rfl, e0, hl, hc, by omega⟩

theorem trod_id {fuel : Nat} {x0 x1 x2 x3 : Value} {y : DataW H × List MemPlace} (h : DataW.trod enc Try.prog W base spare held fuel 40 [x0, x1, x2, x3] = some y) :
    ∃ l c n k : Int, x0 = .int .u8 l ∧ x1 = .int .u32 c ∧ x2 = .int .u8 n ∧ x3 = .int .i64 k ∧ (0 ≤ l ∧ l ≤ 255) ∧ (0 ≤ c ∧ c < 4294967296) ∧ (0 ≤ n ∧ n ≤ 255) ∧ (-9223372036854775808 ≤ k ∧ k ≤ 9223372036854775807) := by
  obtain ⟨y0, y1, n, _, _, h0, h1⟩ := trod_struct2 Try.underlying40 h
  simp [Try.cells3, Try.cells38] at h0 h1
  obtain ⟨l, c, n, rfl, rfl, rfl, hl, hc, hn⟩ := trod_handle h0
  obtain ⟨a, e0, _, wa⟩ := DataW.trod_int Try.underlying3 h1
  simp at e0
  exact ⟨l, c, n, a, rfl, rfl, rfl, e0, hl, hc, hn, bounds_i64 wa⟩

theorem open_label {r : Reach} {v : Value} {d : DataW H} {p : List MemPlace} (hv : Value.okWide Try.prog W r b0 24 v) (h : DataW.Trod enc Try.prog W base spare held 24 v d p) :
    ∃ l c : Int, v = .agg #[.int .u8 l, .int .u32 c] ∧ (0 ≤ l ∧ l ≤ 255) ∧ (0 ≤ c ∧ c < 4294967296) := by
  obtain ⟨cs, rfl, hsz⟩ := okWide_struct Try.underlying24 hv
  obtain ⟨c0, c1, rfl⟩ := array2 (hsz.trans Try.cells24)
  obtain ⟨fuel, hf⟩ := h
  obtain ⟨l, c, rfl, rfl, hl, hc⟩ := trod_label hf
  exact ⟨l, c, rfl, hl, hc⟩

theorem open_id {r : Reach} {v : Value} {d : DataW H} {p : List MemPlace} (hv : Value.okWide Try.prog W r b0 40 v) (h : DataW.Trod enc Try.prog W base spare held 40 v d p) :
    ∃ l c n k : Int, v = .agg #[.int .u8 l, .int .u32 c, .int .u8 n, .int .i64 k] ∧ (0 ≤ l ∧ l ≤ 255) ∧ (0 ≤ c ∧ c < 4294967296) ∧ (0 ≤ n ∧ n ≤ 255) ∧ (-9223372036854775808 ≤ k ∧ k ≤ 9223372036854775807) := by
  obtain ⟨cs, rfl, hsz⟩ := okWide_struct Try.underlying40 hv
  obtain ⟨c0, c1, c2, c3, rfl⟩ := array4 (hsz.trans Try.cells40)
  obtain ⟨fuel, hf⟩ := h
  obtain ⟨l, c, n, k, rfl, rfl, rfl, rfl, hl, hc, hn, hk⟩ := trod_id hf
  exact ⟨l, c, n, k, rfl, hl, hc, hn, hk⟩

theorem open_span {r : Reach} {v : Value} {d : DataW H} {p : List MemPlace} (hv : Value.okWide Try.prog W r b0 44 v) (h : DataW.Trod enc Try.prog W base spare held 44 v d p) :
    ∃ l c n k m : Int, v = .agg #[.int .u8 l, .int .u32 c, .int .u8 n, .int .i64 k, .int .i64 m] ∧ (0 ≤ l ∧ l ≤ 255) ∧ (0 ≤ c ∧ c < 4294967296) ∧ (0 ≤ n ∧ n ≤ 255) ∧ (-9223372036854775808 ≤ k ∧ k ≤ 9223372036854775807) ∧ (-9223372036854775808 ≤ m ∧ m ≤ 9223372036854775807) := by
  obtain ⟨cs, rfl, hsz⟩ := okWide_struct Try.underlying44 hv
  obtain ⟨c0, c1, c2, c3, c4, rfl⟩ := array5 (hsz.trans Try.cells44)
  obtain ⟨fuel, hf⟩ := h
  obtain ⟨y0, y1, n, _, _, h0, h1⟩ := trod_struct2 Try.underlying44 hf
  simp [Value.cells, Try.cells3, Try.cells40] at h0 h1
  obtain ⟨l, c, n, k, rfl, rfl, rfl, rfl, hl, hc, hn, hk⟩ := trod_id h0
  obtain ⟨a, e0, _, wa⟩ := DataW.trod_int Try.underlying3 h1
  simp at e0
  subst e0
  exact ⟨l, c, n, k, a, rfl, hl, hc, hn, hk, bounds_i64 wa⟩

theorem trod_lt {t : TypeId} {v : Value} {d : DataW H} {p : List MemPlace} (h : DataW.Trod enc Try.prog W 0 spare held t v d p) : ∀ x ∈ p, x.block < W.heap.size := by
  obtain ⟨m, hm⟩ := h; exact DataW.trod_lt m _ _ _ hm
end

end Go.Proofs.Ytaloeaihnkkfeaa
