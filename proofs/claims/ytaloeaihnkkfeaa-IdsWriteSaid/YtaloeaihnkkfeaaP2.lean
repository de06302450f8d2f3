import Derived.Test.YtaloeaihnkkfeaaJ3
namespace Go.Proofs.Ytaloeaihnkkfeaa
open Go.RowKit

theorem two_pow (m : Nat) : (2 : Int) ^ (8 * m) = 256 ^ m := by
  rw [Int.pow_mul]; rfl
theorem pow_pos' (m : Nat) : (0 : Int) < 256 ^ m := Int.pow_pos (by decide)
theorem beL_succ (k : Int) (m : Nat) : beL k (m + 1) = k / 256 ^ m % 256 :: beL k m := by rw [beL, two_pow]
theorem foldl_num (xs : List Int) (a : Int) : xs.foldl (fun n x => n * 256 + x) a = a * 256 ^ xs.length + numL xs := by
  induction xs generalizing a with
  | nil => simp [numL]
  | cons x xs ih =>
    unfold numL
    rw [List.foldl_cons, List.foldl_cons, ih, ih, List.length_cons, Int.pow_succ]
    grind
theorem numL_cons (x : Int) (xs : List Int) : numL (x :: xs) = x * 256 ^ xs.length + numL xs := by
  unfold numL
  rw [List.foldl_cons, foldl_num]
  unfold numL
  simp
theorem numL_lt (xs : List Int) (h : U8s xs) : 0 ≤ numL xs ∧ numL xs < 256 ^ xs.length := by
  have := numL_bounds xs h xs.length (Nat.le_refl _)
  rwa [List.take_of_length_le (Nat.le_refl _)] at this
theorem emod_split (k p : Int) (h : 0 ≤ k) (hp : 0 < p) : k / p % 256 * p + k % p = k % (p * 256) := by
  obtain ⟨a, rfl⟩ := Int.eq_ofNat_of_zero_le h
  obtain ⟨b, rfl⟩ := Int.eq_ofNat_of_zero_le (Int.le_of_lt hp)
  have e := Nat.mod_mul (x := a) (a := b) (b := 256)
  have e2 : ((a % (b * 256) : Nat) : Int) = ((a % b + b * (a / b % 256) : Nat) : Int) := by rw [e]
  rw [Int.natCast_add, Int.natCast_mul, Int.natCast_emod, Int.natCast_emod, Int.natCast_emod, Int.natCast_ediv, Int.natCast_mul] at e2
  have e3 : ((256 : Nat) : Int) = 256 := rfl
  rw [e3] at e2
  rw [e2]
  grind
theorem numL_beL (k : Int) (m : Nat) (h : 0 ≤ k) : numL (beL k m) = k % 256 ^ m := by
  induction m with
  | zero => simp [beL, numL, Int.emod_one]
  | succ m ih =>
    rw [beL_succ, numL_cons, beL_len, ih, Int.pow_succ, emod_split k (256 ^ m) h (pow_pos' m)]
theorem beL_add (a b : Int) (m j : Nat) (hj : j ≤ m) : beL (a * 256 ^ m + b) j = beL b j := by
  induction j with
  | zero => rfl
  | succ j ih =>
    rw [beL_succ, beL_succ, ih (by omega)]
    have hm : m = j + (m - j - 1) + 1 := by omega
    have e : a * 256 ^ m + b = b + 256 ^ j * (a * 256 ^ (m - j - 1) * 256) := by
      rw [hm, Int.pow_succ, Int.pow_add]
      have : j + (m - j - 1) + 1 - j - 1 = m - j - 1 := by omega
      rw [this]
      grind
    rw [e, Int.add_mul_ediv_left _ _ (Int.ne_of_gt (pow_pos' j))]
    congr 1
    omega
theorem beL_numL (ys : List Int) (h : U8s ys) : beL (numL ys) ys.length = ys := by
  induction ys with
  | nil => rfl
  | cons y ys ih =>
    have hy := h y (by simp)
    have hys : U8s ys := fun x hx => h x (by simp [hx])
    have hn := numL_lt ys hys
    rw [List.length_cons, beL_succ, numL_cons, beL_add _ _ _ _ (Nat.le_refl _), ih hys]
    congr 1
    rw [Int.add_comm, Int.add_mul_ediv_right _ _ (Int.ne_of_gt (pow_pos' _)), Int.ediv_eq_zero_of_lt hn.1 hn.2]
    omega

theorem beL_u8 (k : Int) (m : Nat) : U8s (beL k m) := by
  induction m with
  | zero => intro x hx; simp [beL] at hx
  | succ m ih =>
    intro x hx
    rw [beL_succ] at hx
    rcases List.mem_cons.1 hx with rfl | hx
    · have := Int.emod_nonneg (k / 256 ^ m) (show (256 : Int) ≠ 0 by decide); have := Int.emod_lt_of_pos (k / 256 ^ m) (show (0 : Int) < 256 by decide); omega
    · exact ih x hx
theorem iBytes_u8 (l c n k : Int) (hl : 0 ≤ l ∧ l ≤ 255) (hn : 0 ≤ n ∧ n ≤ 255) : U8s (iBytes l c n k) := by
  intro x hx
  simp only [iBytes, hBytes, List.mem_append, List.mem_cons, List.not_mem_nil, or_false] at hx
  rcases hx with (rfl | hx | rfl) | hx
  · exact hl
  · exact beL_u8 c 4 x hx
  · exact hn
  · exact beL_u8 k 7 x hx
theorem iBytes_at (l c n k : Int) : (iBytes l c n k).getD 0 0 = l ∧ (iBytes l c n k).getD 5 0 = n ∧ ((iBytes l c n k).drop 1).take 4 = beL c 4 ∧ ((iBytes l c n k).drop 6).take 7 = beL k 7 ∧ (iBytes l c n k).take 6 = hBytes l c n := by
  refine ⟨rfl, ?_, ?_, ?_, ?_⟩ <;> simp [iBytes, hBytes, beL]
theorem iBytes_cats (l c n k : Int) (h0 : 0 ≤ c) (h1 : c < 4294967296) : catsOf (iBytes l c n k) = c := by
  unfold catsOf
  rw [(iBytes_at l c n k).2.2.1, numL_beL c 4 h0, Int.emod_eq_of_lt h0 (Int.lt_of_lt_of_le h1 (by decide))]
theorem iBytes_ctr (l c n k : Int) (h0 : 0 ≤ k) (h1 : k ≤ 1099511627776) : ctrOf (iBytes l c n k) = k := by
  unfold ctrOf
  rw [(iBytes_at l c n k).2.2.2.1, numL_beL k 7 h0, Int.emod_eq_of_lt h0 (Int.lt_of_le_of_lt h1 (by decide))]
theorem iBytes_back (xs : List Int) (hl : xs.length = 13) (h : U8s xs) : iBytes (xs.getD 0 0) (catsOf xs) (xs.getD 5 0) (ctrOf xs) = xs := by
  have h4 : ((xs.drop 1).take 4).length = 4 := by simp; omega
  have h7 : ((xs.drop 6).take 7).length = 7 := by simp; omega
  have e4 := beL_numL ((xs.drop 1).take 4) (sub_u8s h 1 4)
  have e7 := beL_numL ((xs.drop 6).take 7) (sub_u8s h 6 7)
  rw [h4] at e4
  rw [h7] at e7
  unfold iBytes hBytes catsOf ctrOf
  rw [e4, e7]
  match xs, hl with
  | [a0, a1, a2, a3, a4, a5, a6, a7, a8, a9, a10, a11, a12], _ => rfl

end Go.Proofs.Ytaloeaihnkkfeaa
