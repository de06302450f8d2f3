import Derived.Test.YtaloeaihnkkfeaaB1
import Derived.Deep.Cut
import Derived.Outline
namespace Go.Proofs.Ytaloeaihnkkfeaa
open Go.RowKit

/-- A block that is known whole, in every world that extends W. -/
structure Blk (W : World) (p : Nat) (cs : Array Value) (t : TypeId) : Prop where
  all : ∀ X : Ext W, X.at'.heap[p]? = some (.cells cs t)
theorem Blk.new (W : World) (cs : Array Value) (t : TypeId) : Blk (W.alloc (.cells cs t)) W.heap.size cs t :=
  ⟨fun X => by rw [X.below.block _ (by simp)]; exact heap_alloc_new W _⟩
theorem Blk.up {W W1 : World} {p : Nat} {cs : Array Value} {t : TypeId} (h : Blk W p cs t) (hb : Below W.heap.size W W1) : Blk W1 p cs t :=
  ⟨fun X => h.all ⟨X.at', below_next hb X.below⟩⟩
theorem Blk.alloc {W : World} {p : Nat} {cs : Array Value} {t : TypeId} (h : Blk W p cs t) (o : Obj) : Blk (W.alloc o) p cs t := h.up (below_alloc (Below.refl _ _) o)
theorem Blk.at {W : World} {p : Nat} {cs : Array Value} {t : TypeId} (h : Blk W p cs t) (i : Nat) {v : Value} (hv : cs[i]? = some v) : ∀ X : Ext W, X.at'.cell? ⟨p, i, none⟩ = some v := fun X => by
  simp [World.cell?, h.all X, hv]
theorem Blk.free {W : World} {p : Nat} {cs : Array Value} {t : TypeId} (h : Blk W p cs t) (i : Nat) : ∀ X : Ext W, X.at'.frozen? ⟨p, i, none⟩ = false := fun X => by
  simp [World.frozen?, h.all X]
theorem Blk.lt {W : World} {p : Nat} {cs : Array Value} {t : TypeId} (h : Blk W p cs t) : ∀ X : Ext W, p < X.at'.heap.size := fun X => by
  have := h.all X
  rcases Nat.lt_or_ge p X.at'.heap.size with hlt | hge
  · exact hlt
  · rw [Array.getElem?_eq_none hge] at this; cases this

def mayH (l n : Int) : Bool := decide (l ≤ 15) && decide (n < 8)
def mayI (l n k : Int) : Bool := mayH l n && decide (1 ≤ k) && decide (k ≤ 1099511627776)
def mayS (l n k m : Int) : Bool := mayI l n k && decide (1 ≤ m) && decide (m ≤ 64) && decide (k + m - 1 ≤ 1099511627776)
def rt (b : Bool) : Int := if b then 0 else 8
theorem mayH_iff (l n : Int) : mayH l n = true ↔ l ≤ 15 ∧ n < 8 := by simp [mayH]
theorem mayI_iff (l n k : Int) : mayI l n k = true ↔ l ≤ 15 ∧ n < 8 ∧ 1 ≤ k ∧ k ≤ 1099511627776 := by simp [mayI, mayH, and_assoc]
theorem mayS_iff (l n k m : Int) : mayS l n k m = true ↔ l ≤ 15 ∧ n < 8 ∧ 1 ≤ k ∧ k ≤ 1099511627776 ∧ 1 ≤ m ∧ m ≤ 64 ∧ k + m - 1 ≤ 1099511627776 := by simp [mayS, mayI, mayH, and_assoc]
theorem mayS_I {l n k m : Int} (h : mayS l n k m = true) : mayI l n k = true := by rw [mayS_iff] at h; rw [mayI_iff]; omega

theorem right_any (b : Bool) (w : World) : Calls Try.prog 62 #[.bool b] w fun e w' => e = .returned (.int .i64 (rt b)) ∧ Below w.heap.size w w' := by
  cases b
  · go_enter Try.func62, Try.ntmps62
    go_wp2
    go_ret
    exact ⟨rfl, Below.refl _ _⟩
  · go_enter Try.func62, Try.ntmps62
    go_wp2
    go_ret
    exact ⟨rfl, Below.refl _ _⟩

set_option maxRecDepth 100000 in
set_option maxHeartbeats 1000000 in
theorem checkH_is (l c n : Int) (r : Bool) (hr : mayH l n = r) (w : World) : Calls Try.prog 39 #[.agg #[.int .u8 l, .int .u32 c, .int .u8 n]] w fun e w' => e = .returned (.int .i64 (rt r)) ∧ Below w.heap.size w w' := by
  have HB := Blk.new w #[.int .u8 l, .int .u32 c, .int .u8 n] 38
  by_cases h1 : l ≤ 15
  · have k1 : chk l = 0 := if_pos h1
    by_cases h2 : n < 8
    · obtain rfl : r = true := by rw [← hr, mayH_iff]; omega
      clear hr
      go_enter Try.func39, Try.ntmps39
      go_wp2_with fail
      have B := below_alloc (Below.refl w.heap.size w) (.cells #[.int .u8 l, .int .u32 c, .int .u8 n] 38)
      generalize (World.alloc w _) = W at HB B ⊢
      obtain ⟨x, hx'⟩ := ext_at W
      rw [hx']; clear hx'
      have a2 := HB.at 2 rfl
      go_wp2_with (first | (go_at_call 17; (with_reducible refine (Calls.ext (check_is _ _ _ k1 _)).mono ?_); rintro _ _ ⟨rfl, _, rfl⟩) | (go_at_call 62; (with_reducible refine (Calls.ext (right_any _ _)).mono ?_); rintro _ _ ⟨rfl, _, rfl⟩))
      go_ret
      exact ⟨rfl, ext_below B _⟩
    · have z := decide_eq_false h2
      obtain rfl : r = false := by rw [← hr]; exact Bool.eq_false_iff.2 (fun h => by rw [mayH_iff] at h; omega)
      clear hr
      go_enter Try.func39, Try.ntmps39
      go_wp2_with fail
      have B := below_alloc (Below.refl w.heap.size w) (.cells #[.int .u8 l, .int .u32 c, .int .u8 n] 38)
      generalize (World.alloc w _) = W at HB B ⊢
      obtain ⟨x, hx'⟩ := ext_at W
      rw [hx']; clear hx'
      have a2 := HB.at 2 rfl
      go_wp2_with (first | (go_at_call 17; (with_reducible refine (Calls.ext (check_is _ _ _ k1 _)).mono ?_); rintro _ _ ⟨rfl, _, rfl⟩) | (go_at_call 62; (with_reducible refine (Calls.ext (right_any _ _)).mono ?_); rintro _ _ ⟨rfl, _, rfl⟩))
      go_ret
      exact ⟨rfl, ext_below B _⟩
  · have k1 : chk l = 8 := if_neg h1
    obtain rfl : r = false := by rw [← hr]; exact Bool.eq_false_iff.2 (fun h => by rw [mayH_iff] at h; omega)
    clear hr
    go_enter Try.func39, Try.ntmps39
    go_wp2_with fail
    have B := below_alloc (Below.refl w.heap.size w) (.cells #[.int .u8 l, .int .u32 c, .int .u8 n] 38)
    generalize (World.alloc w _) = W at HB B ⊢
    obtain ⟨x, hx'⟩ := ext_at W
    rw [hx']; clear hx'
    have a2 := HB.at 2 rfl
    go_wp2_with (first | (go_at_call 17; (with_reducible refine (Calls.ext (check_is _ _ _ k1 _)).mono ?_); rintro _ _ ⟨rfl, _, rfl⟩) | (go_at_call 62; (with_reducible refine (Calls.ext (right_any _ _)).mono ?_); rintro _ _ ⟨rfl, _, rfl⟩))
    go_ret
    exact ⟨rfl, ext_below B _⟩

set_option maxRecDepth 100000 in
set_option maxHeartbeats 1000000 in
theorem checkI_is (l c n k : Int) (r : Bool) (hr : mayI l n k = r) (w : World) : Calls Try.prog 37 #[.agg #[.int .u8 l, .int .u32 c, .int .u8 n, .int .i64 k]] w fun e w' => e = .returned (.int .i64 (rt r)) ∧ Below w.heap.size w w' := by
  have HB := Blk.new w #[.int .u8 l, .int .u32 c, .int .u8 n, .int .i64 k] 40
  by_cases h1 : l ≤ 15 ∧ n < 8
  · have k1 : mayH l n = true := (mayH_iff l n).2 h1
    obtain ⟨g1, g2⟩ := h1
    by_cases h2 : 1 ≤ k
    · by_cases h3 : k ≤ 1099511627776
      · obtain rfl : r = true := by rw [← hr, mayI_iff]; omega
        clear hr
        go_enter Try.func37, Try.ntmps37
        go_wp2_with fail
        have B := below_alloc (Below.refl w.heap.size w) (.cells #[.int .u8 l, .int .u32 c, .int .u8 n, .int .i64 k] 40)
        generalize (World.alloc w _) = W at HB B ⊢
        obtain ⟨x, hx'⟩ := ext_at W
        rw [hx']; clear hx'
        have a3 := HB.at 3 rfl
        go_wp2_with (first | (go_at_call 39; (with_reducible refine (Calls.ext (checkH_is _ _ _ _ k1 _)).mono ?_); rintro _ _ ⟨rfl, _, rfl⟩) | (go_at_call 62; (with_reducible refine (Calls.ext (right_any _ _)).mono ?_); rintro _ _ ⟨rfl, _, rfl⟩))
        go_ret
        exact ⟨rfl, ext_below B _⟩
      · have z := decide_eq_false h3
        obtain rfl : r = false := by rw [← hr]; exact Bool.eq_false_iff.2 (fun h => by rw [mayI_iff] at h; first | omega | exact h1.out ⟨h.1, h.2.1⟩)
        clear hr
        go_enter Try.func37, Try.ntmps37
        go_wp2_with fail
        have B := below_alloc (Below.refl w.heap.size w) (.cells #[.int .u8 l, .int .u32 c, .int .u8 n, .int .i64 k] 40)
        generalize (World.alloc w _) = W at HB B ⊢
        obtain ⟨x, hx'⟩ := ext_at W
        rw [hx']; clear hx'
        have a3 := HB.at 3 rfl
        go_wp2_with (first | (go_at_call 39; (with_reducible refine (Calls.ext (checkH_is _ _ _ _ k1 _)).mono ?_); rintro _ _ ⟨rfl, _, rfl⟩) | (go_at_call 62; (with_reducible refine (Calls.ext (right_any _ _)).mono ?_); rintro _ _ ⟨rfl, _, rfl⟩))
        go_ret
        exact ⟨rfl, ext_below B _⟩
    · obtain rfl : r = false := by rw [← hr]; exact Bool.eq_false_iff.2 (fun h => by rw [mayI_iff] at h; first | omega | exact h1.out ⟨h.1, h.2.1⟩)
      clear hr
      go_enter Try.func37, Try.ntmps37
      go_wp2_with fail
      have B := below_alloc (Below.refl w.heap.size w) (.cells #[.int .u8 l, .int .u32 c, .int .u8 n, .int .i64 k] 40)
      generalize (World.alloc w _) = W at HB B ⊢
      obtain ⟨x, hx'⟩ := ext_at W
      rw [hx']; clear hx'
      have a3 := HB.at 3 rfl
      go_wp2_with (first | (go_at_call 39; (with_reducible refine (Calls.ext (checkH_is _ _ _ _ k1 _)).mono ?_); rintro _ _ ⟨rfl, _, rfl⟩) | (go_at_call 62; (with_reducible refine (Calls.ext (right_any _ _)).mono ?_); rintro _ _ ⟨rfl, _, rfl⟩))
      go_ret
      exact ⟨rfl, ext_below B _⟩
  · have k1 : mayH l n = false := Bool.eq_false_iff.2 (fun h => h1 ((mayH_iff l n).1 h))
    replace h1 : Hid (¬ (l ≤ 15 ∧ n < 8)) := h1
    obtain rfl : r = false := by rw [← hr]; exact Bool.eq_false_iff.2 (fun h => by rw [mayI_iff] at h; first | omega | exact h1.out ⟨h.1, h.2.1⟩)
    clear hr
    go_enter Try.func37, Try.ntmps37
    go_wp2_with fail
    have B := below_alloc (Below.refl w.heap.size w) (.cells #[.int .u8 l, .int .u32 c, .int .u8 n, .int .i64 k] 40)
    generalize (World.alloc w _) = W at HB B ⊢
    obtain ⟨x, hx'⟩ := ext_at W
    rw [hx']; clear hx'
    have a3 := HB.at 3 rfl
    go_wp2_with (first | (go_at_call 39; (with_reducible refine (Calls.ext (checkH_is _ _ _ _ k1 _)).mono ?_); rintro _ _ ⟨rfl, _, rfl⟩) | (go_at_call 62; (with_reducible refine (Calls.ext (right_any _ _)).mono ?_); rintro _ _ ⟨rfl, _, rfl⟩))
    go_ret
    exact ⟨rfl, ext_below B _⟩

set_option maxRecDepth 100000 in
set_option maxHeartbeats 1000000 in
theorem checkS_is (l c n k m : Int) (r : Bool) (hr : mayS l n k m = r) (w : World) : Calls Try.prog 41 #[.agg #[.int .u8 l, .int .u32 c, .int .u8 n, .int .i64 k, .int .i64 m]] w fun e w' => e = .returned (.int .i64 (rt r)) ∧ Below w.heap.size w w' := by
  have HB := Blk.new w #[.int .u8 l, .int .u32 c, .int .u8 n, .int .i64 k, .int .i64 m] 44
  by_cases h1 : l ≤ 15 ∧ n < 8 ∧ 1 ≤ k ∧ k ≤ 1099511627776
  · have k1 : mayI l n k = true := (mayI_iff l n k).2 h1
    obtain ⟨g1, g2, g3, g4⟩ := h1
    by_cases h2 : 1 ≤ m
    · by_cases h3 : m ≤ 64
      · by_cases h4 : k + m - 1 ≤ 1099511627776
        · obtain rfl : r = true := by rw [← hr, mayS_iff]; omega
          clear hr
          go_enter Try.func41, Try.ntmps41
          go_wp2_with fail
          have B := below_alloc (Below.refl w.heap.size w) (.cells #[.int .u8 l, .int .u32 c, .int .u8 n, .int .i64 k, .int .i64 m] 44)
          generalize (World.alloc w _) = W at HB B ⊢
          obtain ⟨x, hx'⟩ := ext_at W
          rw [hx']; clear hx'
          have a3 := HB.at 3 rfl
          have a4 := HB.at 4 rfl
          go_wp2_with (first | (go_at_call 37; (with_reducible refine (Calls.ext (checkI_is _ _ _ _ _ k1 _)).mono ?_); rintro _ _ ⟨rfl, _, rfl⟩) | (go_at_call 62; (with_reducible refine (Calls.ext (right_any _ _)).mono ?_); rintro _ _ ⟨rfl, _, rfl⟩))
          go_ret
          exact ⟨rfl, ext_below B _⟩
        · have z := decide_eq_false h4
          obtain rfl : r = false := by rw [← hr]; exact Bool.eq_false_iff.2 (fun h => by rw [mayS_iff] at h; first | omega | exact h1.out ⟨h.1, h.2.1, h.2.2.1, h.2.2.2.1⟩)
          clear hr
          go_enter Try.func41, Try.ntmps41
          go_wp2_with fail
          have B := below_alloc (Below.refl w.heap.size w) (.cells #[.int .u8 l, .int .u32 c, .int .u8 n, .int .i64 k, .int .i64 m] 44)
          generalize (World.alloc w _) = W at HB B ⊢
          obtain ⟨x, hx'⟩ := ext_at W
          rw [hx']; clear hx'
          have a3 := HB.at 3 rfl
          have a4 := HB.at 4 rfl
          go_wp2_with (first | (go_at_call 37; (with_reducible refine (Calls.ext (checkI_is _ _ _ _ _ k1 _)).mono ?_); rintro _ _ ⟨rfl, _, rfl⟩) | (go_at_call 62; (with_reducible refine (Calls.ext (right_any _ _)).mono ?_); rintro _ _ ⟨rfl, _, rfl⟩))
          go_ret
          exact ⟨rfl, ext_below B _⟩
      · obtain rfl : r = false := by rw [← hr]; exact Bool.eq_false_iff.2 (fun h => by rw [mayS_iff] at h; first | omega | exact h1.out ⟨h.1, h.2.1, h.2.2.1, h.2.2.2.1⟩)
        clear hr
        go_enter Try.func41, Try.ntmps41
        go_wp2_with fail
        have B := below_alloc (Below.refl w.heap.size w) (.cells #[.int .u8 l, .int .u32 c, .int .u8 n, .int .i64 k, .int .i64 m] 44)
        generalize (World.alloc w _) = W at HB B ⊢
        obtain ⟨x, hx'⟩ := ext_at W
        rw [hx']; clear hx'
        have a3 := HB.at 3 rfl
        have a4 := HB.at 4 rfl
        go_wp2_with (first | (go_at_call 37; (with_reducible refine (Calls.ext (checkI_is _ _ _ _ _ k1 _)).mono ?_); rintro _ _ ⟨rfl, _, rfl⟩) | (go_at_call 62; (with_reducible refine (Calls.ext (right_any _ _)).mono ?_); rintro _ _ ⟨rfl, _, rfl⟩))
        go_ret
        exact ⟨rfl, ext_below B _⟩
    · obtain rfl : r = false := by rw [← hr]; exact Bool.eq_false_iff.2 (fun h => by rw [mayS_iff] at h; first | omega | exact h1.out ⟨h.1, h.2.1, h.2.2.1, h.2.2.2.1⟩)
      clear hr
      go_enter Try.func41, Try.ntmps41
      go_wp2_with fail
      have B := below_alloc (Below.refl w.heap.size w) (.cells #[.int .u8 l, .int .u32 c, .int .u8 n, .int .i64 k, .int .i64 m] 44)
      generalize (World.alloc w _) = W at HB B ⊢
      obtain ⟨x, hx'⟩ := ext_at W
      rw [hx']; clear hx'
      have a3 := HB.at 3 rfl
      have a4 := HB.at 4 rfl
      go_wp2_with (first | (go_at_call 37; (with_reducible refine (Calls.ext (checkI_is _ _ _ _ _ k1 _)).mono ?_); rintro _ _ ⟨rfl, _, rfl⟩) | (go_at_call 62; (with_reducible refine (Calls.ext (right_any _ _)).mono ?_); rintro _ _ ⟨rfl, _, rfl⟩))
      go_ret
      exact ⟨rfl, ext_below B _⟩
  · have k1 : mayI l n k = false := Bool.eq_false_iff.2 (fun h => h1 ((mayI_iff l n k).1 h))
    replace h1 : Hid (¬ (l ≤ 15 ∧ n < 8 ∧ 1 ≤ k ∧ k ≤ 1099511627776)) := h1
    obtain rfl : r = false := by rw [← hr]; exact Bool.eq_false_iff.2 (fun h => by rw [mayS_iff] at h; first | omega | exact h1.out ⟨h.1, h.2.1, h.2.2.1, h.2.2.2.1⟩)
    clear hr
    go_enter Try.func41, Try.ntmps41
    go_wp2_with fail
    have B := below_alloc (Below.refl w.heap.size w) (.cells #[.int .u8 l, .int .u32 c, .int .u8 n, .int .i64 k, .int .i64 m] 44)
    generalize (World.alloc w _) = W at HB B ⊢
    obtain ⟨x, hx'⟩ := ext_at W
    rw [hx']; clear hx'
    have a3 := HB.at 3 rfl
    have a4 := HB.at 4 rfl
    go_wp2_with (first | (go_at_call 37; (with_reducible refine (Calls.ext (checkI_is _ _ _ _ _ k1 _)).mono ?_); rintro _ _ ⟨rfl, _, rfl⟩) | (go_at_call 62; (with_reducible refine (Calls.ext (right_any _ _)).mono ?_); rintro _ _ ⟨rfl, _, rfl⟩))
    go_ret
    exact ⟨rfl, ext_below B _⟩

set_option maxHeartbeats 400000 in
theorem by_any (l n k : Int) (w : World) : Calls Try.prog 52 #[.int .u8 l, .int .u8 n, .int .i64 k] w fun e w' => e = .returned (.agg #[.int .u8 l, .int .u32 1, .int .u8 n, .int .i64 k]) ∧ Below w.heap.size w w' := by
  go_enter Try.func52, Try.ntmps52
  go_wp2
  refine bodyPost_ret (v := .agg #[.int .u8 l, .int .u32 1, .int .u8 n, .int .i64 k]) (by simp [results, Try.results52, go_sem]) rfl ⟨rfl, ?_⟩
  exact (Below.refl _ _).alloc (Nat.le_refl _) _

set_option maxHeartbeats 400000 in
theorem next_any (l c n k j : Int) (w : World) (h1 : -9223372036854775808 ≤ k + j) (h2 : k + j ≤ 9223372036854775807) : Calls Try.prog 59 #[.agg #[.int .u8 l, .int .u32 c, .int .u8 n, .int .i64 k], .int .i64 j] w fun e w' => e = .returned (.agg #[.int .u8 l, .int .u32 c, .int .u8 n, .int .i64 (k + j)]) ∧ Below w.heap.size w w' := by
  go_enter Try.func59, Try.ntmps59
  go_wp2
  refine bodyPost_ret (v := .agg #[.int .u8 l, .int .u32 c, .int .u8 n, .int .i64 (k + j)]) (by simp [results, Try.results59, go_sem]) rfl ⟨rfl, ?_⟩
  exact below_alloc (below_alloc (Below.refl _ _) _) _

def lessB (l c n k m d q j : Int) : Bool := if k = j then (if eqL l c m d then decide (n < q) else aheadB l c m d) else decide (k < j)

theorem run_ne_is' (l c m d : Int) (E : Bool) (h : eqL l c m d = E) : ∀ w, (binOp .neq 24 (.agg #[.int .u8 l, .int .u32 c]) (.agg #[.int .u8 m, .int .u32 d])).run Try.prog w = .ok (.bool (!E)) w := by
  subst h; exact run_neL l c m d

theorem boxI2 (w : World) (cs ds : Array Value) (s t : TypeId) : ∀ W, W = (w.alloc (.cells cs s)).alloc (.cells ds t) →
    Below w.heap.size w W ∧ Blk W w.heap.size cs s ∧ Blk W (w.heap.size + 1) ds t := by
  rintro W rfl
  refine ⟨below_alloc (below_alloc (Below.refl _ _) _) _, (Blk.new w cs s).alloc _, ?_⟩
  have := Blk.new (w.alloc (.cells cs s)) ds t
  simpa using this

set_option maxRecDepth 100000 in
set_option maxHeartbeats 1000000 in
theorem less_any (l c n k m d q j : Int) (w : World) : Calls Try.prog 30 #[.agg #[.int .u8 l, .int .u32 c, .int .u8 n, .int .i64 k], .agg #[.int .u8 m, .int .u32 d, .int .u8 q, .int .i64 j]] w fun e w' => e = .returned (.bool (lessB l c n k m d q j)) ∧ Below w.heap.size w w' := by
  unfold lessB
  by_cases h1 : k = j
  · rw [if_pos h1]
    subst h1
    cases hE : eqL l c m d
    · have e1 := run_ne_is' l c m d false hE
      go_enter Try.func30, Try.ntmps30
      go_wp2_with fail
      obtain ⟨B, HA, HB⟩ := boxI2 w #[.int .u8 l, .int .u32 c, .int .u8 n, .int .i64 k] #[.int .u8 m, .int .u32 d, .int .u8 q, .int .i64 k] 40 40 _ rfl
      generalize (World.alloc (World.alloc w _) _) = W at B HA HB ⊢
      (with_reducible refine (ahead_any _ _ _ _ _).mono ?_); rintro _ w1 ⟨rfl, b1⟩
      go_wp2
      go_ret
      exact ⟨rfl, below_next B b1⟩
    · have e1 := run_ne_is' l c m d true hE
      go_enter Try.func30, Try.ntmps30
      go_wp2
      go_ret
      exact ⟨rfl, below_alloc (below_alloc (Below.refl _ _) _) _⟩
  · rw [if_neg h1]
    have h2 : (k == j) = false := by simpa using h1
    have h3 : (k != j) = true := by simpa using h1
    go_enter Try.func30, Try.ntmps30
    go_wp2
    go_ret
    exact ⟨rfl, below_alloc (below_alloc (Below.refl _ _) _) _⟩

theorem less_is (l c n k m d q j : Int) (r : Bool) (hr : lessB l c n k m d q j = r) (w : World) : Calls Try.prog 30 #[.agg #[.int .u8 l, .int .u32 c, .int .u8 n, .int .i64 k], .agg #[.int .u8 m, .int .u32 d, .int .u8 q, .int .i64 j]] w fun e w' => e = .returned (.bool r) ∧ Below w.heap.size w w' := by
  subst hr; exact less_any l c n k m d q j w

end Go.Proofs.Ytaloeaihnkkfeaa
