import Derived.Test.YtaloeaihnkkfeaaI7
import Derived.Laws.BitsAllLaws
import Derived.Laws.BitsLemmas
namespace Go.Proofs.Ytaloeaihnkkfeaa
open Go.RowKit

/-- The bytes xs lie at ⟨b, off⟩. -/
structure BytesIn (W : World) (b off len : Nat) (xs : List Int) : Prop where
  size : xs.length = len
  lt : b < W.heap.size
  cell : ∀ i, i < len → W.cell? ⟨b, off + i, none⟩ = some (.int .u8 (xs.getD i 0))
theorem BytesIn.up {W W1 : World} {b off len : Nat} {xs : List Int} (h : BytesIn W b off len xs) (hb : Below W.heap.size W W1) : BytesIn W1 b off len xs :=
  ⟨h.size, Nat.lt_of_lt_of_le h.lt hb.size, fun i hi => (hb.cell h.lt).trans (h.cell i hi)⟩
theorem BytesIn.sub {W : World} {b off len : Nat} {xs : List Int} (h : BytesIn W b off len xs) (i n : Nat) (hi : i + n ≤ len) : BytesIn W b (off + i) n ((xs.drop i).take n) :=
  ⟨by simp [h.size]; omega, h.lt, fun j hj => by
    rw [Nat.add_assoc, h.cell (i + j) (by omega)]
    simp [List.getD, hj]⟩
theorem BytesIn.of_own {W : World} {B g n cap : Nat} {xs : List Int} (h : OwnsB W B (.slice (some ⟨g, 0, none⟩) n cap) xs) (hn : xs.length = n) : BytesIn W g 0 n xs :=
  ⟨hn, (World.ownsRow.lt h g rfl).2, fun i hi => by rw [Nat.zero_add]; exact own_cell h i (by omega)⟩
abbrev U8s (xs : List Int) : Prop := ∀ x ∈ xs, 0 ≤ x ∧ x ≤ 255

/-- The number of bytes, the highest first. -/
def numL (xs : List Int) : Int := xs.foldl (fun n x => n * 256 + x) 0
theorem numL_snoc (xs : List Int) (x : Int) : numL (xs ++ [x]) = numL xs * 256 + x := by simp [numL]
theorem numL_take (xs : List Int) (k : Nat) (hk : k < xs.length) : numL (xs.take (k + 1)) = numL (xs.take k) * 256 + xs.getD k 0 := by
  rw [List.take_succ_eq_append_getElem hk, numL_snoc]
  simp [List.getD, List.getElem?_eq_getElem hk]
theorem numL_bounds (xs : List Int) (h : U8s xs) (k : Nat) (hk : k ≤ xs.length) : 0 ≤ numL (xs.take k) ∧ numL (xs.take k) < 256 ^ k := by
  induction k with
  | zero => simp [numL]
  | succ k ih =>
    obtain ⟨a, b⟩ := ih (by omega)
    rw [numL_take xs k (by omega)]
    have hx := h (xs.getD k 0) (by simp [List.getD, List.getElem?_eq_getElem (show k < xs.length by omega)])
    have : (256 : Int) ^ (k + 1) = 256 ^ k * 256 := Int.pow_succ 256 k
    omega
theorem pow7 (k : Nat) (h : k ≤ 6) : (256 : Int) ^ k ≤ 281474976710656 := by
  have : k = 0 ∨ k = 1 ∨ k = 2 ∨ k = 3 ∨ k = 4 ∨ k = 5 ∨ k = 6 := by omega
  rcases this with rfl | rfl | rfl | rfl | rfl | rfl | rfl <;> decide

theorem ofInt_i64' (a : Nat) (ha : a < 9223372036854775808) : (BitVec.ofInt 64 (a : Int)).toNat = a := by
  rw [BitVec.ofInt_natCast, BitVec.toNat_ofNat]; exact Nat.mod_eq_of_lt (by omega)
theorem i64_or_low (n x : Int) (h0 : 0 ≤ n) (h1 : n < 281474976710656) (h2 : 0 ≤ x) (h3 : x ≤ 255) : bits .or .i64 (n * 256) x = n * 256 + x := by
  obtain ⟨a, rfl⟩ := Int.eq_ofNat_of_zero_le h0
  obtain ⟨b, rfl⟩ := Int.eq_ofNat_of_zero_le h2
  have e : ((a : Int) * 256) = ((a * 256 : Nat) : Int) := by simp
  rw [e]
  show IntKind.i64.wrap ((BitVec.ofInt 64 ((a * 256 : Nat) : Int) ||| BitVec.ofInt 64 (b : Int)).toNat : Int) = _
  have hor : a * 256 ||| b = a * 256 + b := by
    have := Nat.shiftLeft_add_eq_or_of_lt (b := b) (i := 8) (by omega) a
    rw [Nat.shiftLeft_eq] at this
    exact this.symm
  rw [BitVec.toNat_or, ofInt_i64' _ (by omega), ofInt_i64' b (by omega), hor, IntKind.wrap_i64]
  omega

theorem ret_int {k : IntKind} {a b : Int} (h : a = b) : Ending.returned (.int k a) = .returned (.int k b) := by rw [h]

set_option maxRecDepth 100000 in
set_option maxHeartbeats 1000000 in
theorem read_any (b off len cap : Nat) (xs : List Int) (w : World) (h : BytesIn w b off len xs) (hl : len ≤ 7) (hx : U8s xs) :
    Calls Try.prog 70 #[.slice (some ⟨b, off, none⟩) len cap] w fun e w' => e = .returned (.int .i64 (numL xs)) ∧ w = w' := by
  have hlen := hid h.size
  have hcell := hid h.cell
  have hX : Hid (U8s xs) := hid hx
  clear h hx
  go_enter Try.func70, Try.ntmps70
  go_wp2
  go_loop [2, 7] (fun n i => ∃ k : Nat, k ≤ len ∧ i = .int .i64 k ∧ n = .int .i64 (numL (xs.take k))) (fun _ i => len - (intOf i).toNat)
  case atStart => exact ⟨0, by omega, rfl, rfl⟩
  case round =>
    obtain ⟨k, hk, rfl, rfl⟩ := hrel
    by_cases hlt : k < len
    · have hc := hcell.out k hlt
      obtain ⟨n0, n1⟩ := numL_bounds xs hX.out k (by have := hlen.out; omega)
      have hp := pow7 k (by omega)
      have n2 : numL (xs.take k) < 281474976710656 := by omega
      clear n1 hp
      have hx01 : 0 ≤ xs[k]?.getD 0 ∧ xs[k]?.getD 0 ≤ 255 := hX.out (xs[k]?.getD 0) (by have := hlen.out; simp [List.getElem?_eq_getElem (show k < xs.length by omega)])
      obtain ⟨x0, x1⟩ := hx01
      go_wp2
      go_round
      case rel => exact ⟨k + 1, by omega, by go_num, by rw [i64_or_low _ _ n0 n2 x0 x1, numL_take xs k (by have := hlen.out; omega), List.getD_eq_getElem?_getD]⟩
      case measure => simp [intOf]; omega
    · obtain rfl : k = len := by omega
      go_wp2
      go_ret
      exact ⟨ret_int (by rw [List.take_of_length_le (by have := hlen.out; omega)]), rfl⟩

end Go.Proofs.Ytaloeaihnkkfeaa
