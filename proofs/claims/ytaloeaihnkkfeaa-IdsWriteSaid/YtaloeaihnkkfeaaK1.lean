import Derived.Test.YtaloeaihnkkfeaaP2
import Derived.Test.YtaloeaihnkkfeaaS1
namespace Go.Proofs.Ytaloeaihnkkfeaa
open Go.RowKit

set_option maxRecDepth 100000 in
set_option maxHeartbeats 1000000 in
theorem rnum_any (b off len cap : Nat) (xs : List Int) (w : World) (h : BytesIn w b off len xs) (hl : len ≤ 7) (hx : U8s xs) :
    Calls Try.prog 71 #[.slice (some ⟨b, off, none⟩) len cap] w fun e w' => e = .returned (.int .i64 (numL xs)) ∧ w = w' := by
  have hlen := hid h.size
  have hcell := hid h.cell
  have hX : Hid (U8s xs) := hid hx
  clear h hx
  go_enter Try.func71, Try.ntmps71
  go_wp2
  go_loop [3, 4] (fun n i => ∃ k : Nat, k ≤ len ∧ i = .int .i64 k ∧ n = .int .i64 (numL (xs.take k))) (fun _ i => len - (intOf i).toNat)
  case atStart => exact ⟨0, by omega, rfl, rfl⟩
  case round =>
    obtain ⟨k, hk, rfl, rfl⟩ := hrel
    by_cases hlt : k < len
    · have hc := hcell.out k hlt
      obtain ⟨n0, n1⟩ := numL_bounds xs hX.out k (by have := hlen.out; omega)
      have hp := pow7 k (by omega)
      have n2 : numL (xs.take k) < 281474976710656 := by omega
      clear n1 hp
      have hx01 : 0 ≤ xs[k]?.getD 0 ∧ xs[k]?.getD 0 ≤ 255 := hX.out (xs[k]?.getD 0) (by have := hlen.out; simp [List.getElem?_eq_getElem (show k < xs.length by omega)])
      obtain ⟨x0, x1⟩ := hx01
      go_wp2
      go_round
      case rel => exact ⟨k + 1, by omega, by go_num, by rw [numL_take xs k (by have := hlen.out; omega), List.getD_eq_getElem?_getD, Int.mul_comm]⟩
      case measure => simp [intOf]; omega
    · obtain rfl : k = len := by omega
      go_wp2
      go_ret
      exact ⟨ret_int (by rw [List.take_of_length_le (by have := hlen.out; omega)]), rfl⟩

def dv (k : Int) (j : Nat) : Int := k / 256 ^ j
theorem dv_zero (k : Int) : dv k 0 = k := by simp [dv]
theorem dv_succ (k : Int) (j : Nat) : dv k j / 256 = dv k (j + 1) := by
  unfold dv
  rw [Int.ediv_ediv_of_nonneg (Int.le_of_lt (pow_pos' j)), Int.pow_succ]
theorem dv_bounds (k : Int) (j : Nat) (h0 : 0 ≤ k) (h1 : k ≤ 9223372036854775807) : 0 ≤ dv k j ∧ dv k j ≤ 9223372036854775807 :=
  ⟨Int.ediv_nonneg h0 (Int.le_of_lt (pow_pos' j)), Int.le_trans (Int.ediv_le_self _ h0) h1⟩
theorem beL_dv (k : Int) (j : Nat) : beL k (j + 1) = dv k j % 256 :: beL k j := beL_succ k j

/-- What has been made wide so far. -/
def WideIs (wr : World) (B : Nat) (v : Value) (k : Int) (j : Nat) : Prop :=
  (j = 0 ∧ v = .slice none 0 0) ∨ ∃ g cap, v = .slice (some ⟨g, 0, none⟩) j cap ∧ OwnsB wr B (.slice (some ⟨g, 0, none⟩) j cap) (beL k j) ∧ B ≤ g ∧ g < wr.heap.size ∧ 0 < j

theorem WideIs.first {w wr : World} {k : Int} (hb : w.heap.size ≤ wr.heap.size) : WideIs (wr.alloc (.cells #[.int .u8 (dv k 0 % 256)] 5)) w.heap.size (.slice (some ⟨wr.heap.size, 0, none⟩) 1 1) k 1 := by
  refine .inr ⟨wr.heap.size, 1, rfl, ?_, hb, by simp, by omega⟩
  have h := own_one (heap_alloc_new wr (.cells #[.int .u8 (dv k 0 % 256)] 5)) hb
  unfold OwnsB
  rw [beL_len, show beL k 1 = [dv k 0 % 256] from beL_dv k 0]
  exact h
theorem WideIs.next {wa : World} {B g cap j : Nat} {k : Int} (h : wa.ownsRow B 5 1 (.slice (some ⟨g, 0, none⟩) (1 + j) cap) (1 + j) ([.int .u8 (dv k j % 256)] ++ u8s (beL k j))) (hlt : g < wa.heap.size) : WideIs wa B (.slice (some ⟨g, 0, none⟩) (1 + j) cap) k (1 + j) := by
  refine .inr ⟨g, cap, rfl, ?_, (World.ownsRow.lt h g rfl).1, hlt, by omega⟩
  unfold OwnsB
  rw [beL_len]
  have e : beL k (1 + j) = dv k j % 256 :: beL k j := by rw [Nat.add_comm, beL_dv]
  rw [e]
  simpa using h

set_option maxRecDepth 100000 in
set_option maxHeartbeats 1000000 in
theorem wide_any (k : Int) (m : Nat) (w : World) (h0 : 0 ≤ k) (h1 : k ≤ 9223372036854775807) (hm : m ≤ 7) (hp : 0 < m) :
    Calls Try.prog 73 #[.int .i64 k, .int .i64 m] w fun e w' => ∃ g cap, e = .returned (.slice (some ⟨g, 0, none⟩) m cap) ∧ OwnsB w' w.heap.size (.slice (some ⟨g, 0, none⟩) m cap) (beL k m) ∧ Below w.heap.size w w' ∧ w.heap.size ≤ g ∧ g < w'.heap.size := by
  obtain ⟨i0, hi, hz0, hz1, hz2⟩ := info_parts Try.info5
  go_enter Try.func73, Try.ntmps73
  go_wp2
  go_loopw [0, 5, 6] (fun n v i wr => ∃ j : Nat, j ≤ m ∧ i = .int .i64 j ∧ n = .int .i64 (dv k j) ∧ WideIs wr w.heap.size v k j ∧ Below w.heap.size w wr) (fun _ _ i _ => m - (intOf i).toNat)
  case atStart => exact ⟨0, by omega, rfl, by rw [dv_zero], .inl ⟨rfl, rfl⟩, Below.refl _ _⟩
  case round =>
    obtain ⟨j, hj, rfl, rfl, hw, hb⟩ := hrel
    obtain ⟨d0, d1⟩ := dv_bounds k j h0 h1
    by_cases hlt : j < m
    · rcases hw with ⟨rfl, rfl⟩ | ⟨g, cap, rfl, ho, hg1, hg2, hjp⟩
      · go_wp2_with fail
        refine ⟨⟨1, by omega, rfl, by rw [dv_succ], WideIs.first hb.size, below_alloc hb _⟩, ?_⟩
        simp [intOf]; omega
      · have hbs := hb.size
        go_wp2_with (at_builtin; refine wpList_append_lies _ rfl (.tmp 15) (.tmp 16) 62 rfl w.heap.size 5 i0 (.int .u8 0) 1 1 Try.underlying62 hi hz0 hz1 hz2 rfl (by decide) _ 1 [.int .u8 (dv k j % 256)] rfl (own_one (heap_alloc_new wr _) hbs) ⟨g, 0, none⟩ j cap (u8s (beL k j)) rfl (by simp [beL_len]) (World.ownsRow.cells (World.ownsRow.alloc ho _) rfl) u8s_one hjp (by unfold maxLen; omega) (by omega) (by simp; omega) _ rfl ?_)
        intro g9 cap9 wa hown9 hgrow9 hat9 hlt9
        have R1 := WideIs.next (j := j) hown9 hlt9
        have R2 := Below.grown (below_alloc hb _) hgrow9 (by simp; omega) (fun k hk => by simp [Value.ownBlock] at hk; omega)
        clear hown9 hgrow9 hat9 ho
        go_wp2
        go_roundw
        case rel => exact ⟨1 + j, by omega, by go_num, by rw [dv_succ, Nat.add_comm], R1, R2⟩
        case measure => simp [intOf]; omega
    · obtain rfl : j = m := by omega
      rcases hw with ⟨rfl, rfl⟩ | ⟨g, cap, rfl, ho, hg1, hg2, _⟩
      · omega
      · go_wp2
        go_ret
        exact ⟨g, cap, rfl, ho, hb, hg1, hg2⟩

theorem wide4 (k : Int) (w : World) (h0 : 0 ≤ k) (h1 : k ≤ 9223372036854775807) :
    Calls Try.prog 73 #[.int .i64 k, .int .i64 4] w fun e w' => ∃ g cap, e = .returned (.slice (some ⟨g, 0, none⟩) 4 cap) ∧ OwnsB w' w.heap.size (.slice (some ⟨g, 0, none⟩) 4 cap) (beL k 4) ∧ Below w.heap.size w w' ∧ w.heap.size ≤ g ∧ g < w'.heap.size :=
  wide_any k 4 w h0 h1 (by omega) (by omega)
theorem wide7 (k : Int) (w : World) (h0 : 0 ≤ k) (h1 : k ≤ 9223372036854775807) :
    Calls Try.prog 73 #[.int .i64 k, .int .i64 7] w fun e w' => ∃ g cap, e = .returned (.slice (some ⟨g, 0, none⟩) 7 cap) ∧ OwnsB w' w.heap.size (.slice (some ⟨g, 0, none⟩) 7 cap) (beL k 7) ∧ Below w.heap.size w w' ∧ w.heap.size ≤ g ∧ g < w'.heap.size :=
  wide_any k 7 w h0 h1 (by omega) (by omega)

end Go.Proofs.Ytaloeaihnkkfeaa
