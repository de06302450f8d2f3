import Derived.Test.YtaloeaihnkkfeaaR3
import Derived.Outline
namespace Go.Proofs.Ytaloeaihnkkfeaa
open Go.RowKit

theorem PutAt.ext {w V : World} {l c m d r0 r1 x y : Int} (h : PutAt w V l c m d r0 r1 x y) :
    (∀ X : Ext V, X.at'.cell? ⟨w.heap.size, 0, none⟩ = some (.int .u8 l)) ∧ (∀ X : Ext V, X.at'.cell? ⟨w.heap.size, 1, none⟩ = some (.int .u32 c)) ∧
    (∀ X : Ext V, X.at'.cell? ⟨w.heap.size + 1, 0, none⟩ = some (.int .u8 m)) ∧ (∀ X : Ext V, X.at'.cell? ⟨w.heap.size + 1, 1, none⟩ = some (.int .u32 d)) ∧
    (∀ X : Ext V, X.at'.cell? ⟨w.heap.size + 1 + 1 + 1, 1, none⟩ = some (.int .u32 y)) ∧ (∀ X : Ext V, X.at'.frozen? ⟨w.heap.size + 1 + 1 + 1, 1, none⟩ = false) :=
  ⟨fun X => (h.grow X.below).cells.1, fun X => (h.grow X.below).cells.2.1, fun X => (h.grow X.below).cells.2.2.1, fun X => (h.grow X.below).cells.2.2.2.1,
   fun X => (h.grow X.below).cells.2.2.2.2.2.2.2.1, fun X => (h.grow X.below).cells.2.2.2.2.2.2.2.2.2.2.2⟩

theorem bit_next (k : Nat) (hk : k < 32) : bitAt k * 2 % 4294967296 = bitAt (k + 1) := by
  by_cases h : k < 31
  · have := bit_succ k h; have := bit_bounds k hk; omega
  · obtain rfl : k = 31 := by omega
    rfl
theorem acc_yes (V k : Nat) (hk : k < 32) (h : V.testBit k = true) : accAt V k + bitAt k = accAt V (k + 1) := by rw [acc_succ V k hk, if_pos h]
theorem acc_no (V k : Nat) (hk : k < 32) (h : V.testBit k = false) : accAt V k = accAt V (k + 1) := by rw [acc_succ V k hk, if_neg (by simp [h])]; simp
theorem or_bit {c d : Int} {k : Nat} {p q : Bool} (h1 : hasB c k = p) (h2 : hasB d k = q) : (c.toNat ||| d.toNat).testBit k = (p || q) := by subst h1 h2; simp [hasB]
theorem and_bit {c d : Int} {k : Nat} {p q : Bool} (h1 : hasB c k = p) (h2 : hasB d k = q) : (c.toNat &&& d.toNat).testBit k = (p && q) := by subst h1 h2; simp [hasB]
theorem or_end (c d : Int) (hc : U32 c) (hd : U32 d) : accAt (c.toNat ||| d.toNat) 32 = bits .or .u32 c d := by
  have h := or_u32 c d hc hd
  rw [acc_end _ (by have := h.1.2; have := h.2; omega), ← h.2]; have := h.1.1; omega
theorem and_end (c d : Int) (hc : U32 c) (hd : U32 d) : accAt (c.toNat &&& d.toNat) 32 = bits .and .u32 c d := by
  have h := and_u32 c d hc hd
  rw [acc_end _ (by have := h.1.2; have := h.2; omega), ← h.2]; have := h.1.1; omega

set_option maxRecDepth 100000 in
set_option maxHeartbeats 2000000 in
theorem rput_or (l c m d : Int) (w : World) (bc : U32 c) (bd : U32 d) :
    Calls Try.prog 57 #[.agg #[.int .u8 l, .int .u32 c], .agg #[.int .u8 m, .int .u32 d], .bool true] w fun e w' => e = .returned (.agg #[.int .u8 (hiI l m), .int .u32 (bits .or .u32 c d)]) ∧ Below w.heap.size w w' := by
  rw [← or_end c d bc bd]
  obtain ⟨bc0, bc1⟩ := bc
  obtain ⟨bd0, bd1⟩ := bd
  go_enter Try.func57, Try.ntmps57
  go_wp2_with fail
  have HP := PutAt.start w l c m d _ rfl
  generalize (World.alloc (World.alloc (World.alloc (World.alloc w _) _) _) _) = W at HP ⊢
  go_loopw [8, 9] (fun b i wr => ∃ k : Nat, k ≤ 32 ∧ i = .int .i64 k ∧ b = .int .u32 (bitAt k) ∧ PutIn w wr l c m d (accAt (c.toNat ||| d.toNat) k)) (fun _ i _ => 32 - (intOf i).toNat)
  case atStart => exact ⟨0, by omega, rfl, rfl, PutIn.mk (by rw [acc_zero]; exact HP)⟩
  case round =>
    obtain ⟨k, hk, rfl, rfl, V, X, rfl, hP⟩ := hrel
    by_cases hlt : k < 32
    · obtain ⟨p0, p1, p2, p3, p4, p5⟩ := hP.ext
      obtain ⟨u1, u2⟩ := bit_bounds k hlt
      obtain ⟨u3, u4⟩ := acc_bounds (c.toNat ||| d.toNat) k hlt
      cases h1 : hasB c k <;> cases h2 : hasB d k
      · go_wp2_with (first | (go_at_call 58; (with_reducible refine (Calls.ext (has_is _ _ k _ _ hlt bc0 bc1 h1)).mono ?_); rintro _ _ ⟨rfl, _, rfl⟩) | (go_at_call 58; (with_reducible refine (Calls.ext (has_is _ _ k _ _ hlt bd0 bd1 h2)).mono ?_); rintro _ _ ⟨rfl, _, rfl⟩))
        go_roundw
        case rel => exact ⟨k + 1, by omega, by go_num, by rw [bit_next k hlt], _, _, rfl, by rw [← acc_no _ k hlt (or_bit h1 h2)]; exact hP⟩
        case measure => simp [intOf]; omega
      · go_wp2_with (first | (go_at_call 58; (with_reducible refine (Calls.ext (has_is _ _ k _ _ hlt bc0 bc1 h1)).mono ?_); rintro _ _ ⟨rfl, _, rfl⟩) | (go_at_call 58; (with_reducible refine (Calls.ext (has_is _ _ k _ _ hlt bd0 bd1 h2)).mono ?_); rintro _ _ ⟨rfl, _, rfl⟩))
        go_roundw
        case rel => exact ⟨k + 1, by omega, by go_num, by rw [bit_next k hlt], PutIn.mk (by rw [← acc_yes _ k hlt (or_bit h1 h2)]; exact (hP.grow (Ext.below _)).setY _)⟩
        case measure => simp [intOf]; omega
      · go_wp2_with (first | (go_at_call 58; (with_reducible refine (Calls.ext (has_is _ _ k _ _ hlt bc0 bc1 h1)).mono ?_); rintro _ _ ⟨rfl, _, rfl⟩) | (go_at_call 58; (with_reducible refine (Calls.ext (has_is _ _ k _ _ hlt bd0 bd1 h2)).mono ?_); rintro _ _ ⟨rfl, _, rfl⟩))
        go_roundw
        case rel => exact ⟨k + 1, by omega, by go_num, by rw [bit_next k hlt], PutIn.mk (by rw [← acc_yes _ k hlt (or_bit h1 h2)]; exact (hP.grow (Ext.below _)).setY _)⟩
        case measure => simp [intOf]; omega
      · go_wp2_with (first | (go_at_call 58; (with_reducible refine (Calls.ext (has_is _ _ k _ _ hlt bc0 bc1 h1)).mono ?_); rintro _ _ ⟨rfl, _, rfl⟩) | (go_at_call 58; (with_reducible refine (Calls.ext (has_is _ _ k _ _ hlt bd0 bd1 h2)).mono ?_); rintro _ _ ⟨rfl, _, rfl⟩))
        go_roundw
        case rel => exact ⟨k + 1, by omega, by go_num, by rw [bit_next k hlt], PutIn.mk (by rw [← acc_yes _ k hlt (or_bit h1 h2)]; exact (hP.grow (Ext.below _)).setY _)⟩
        case measure => simp [intOf]; omega
    · obtain rfl : k = 32 := by omega
      have hQ := hP.grow X.below
      obtain ⟨q0, q1, q2, q3, q4, q5, q6, q7, f0, f1, f2, f3⟩ := hQ.cells
      by_cases hlm : l < m
      · have hh : Hid (hiI l m = m) := if_pos hlm
        go_wp2
        have hR := (((hQ.setX l).setX m).setR m (accAt (c.toNat ||| d.toNat) 32))
        obtain ⟨_, _, _, _, r4, r5, _⟩ := hR.cells
        refine bodyPost_ret (v := .agg #[.int .u8 m, .int .u32 (accAt (c.toNat ||| d.toNat) 32)]) ?_ rfl ⟨by rw [hh.out], hR.below⟩
        simp [results, Try.results57, go_sem, r4, r5]
      · have hh : Hid (hiI l m = l) := if_neg hlm
        go_wp2
        have hR := ((hQ.setX l).setR l (accAt (c.toNat ||| d.toNat) 32))
        obtain ⟨_, _, _, _, r4, r5, _⟩ := hR.cells
        refine bodyPost_ret (v := .agg #[.int .u8 l, .int .u32 (accAt (c.toNat ||| d.toNat) 32)]) ?_ rfl ⟨by rw [hh.out], hR.below⟩
        simp [results, Try.results57, go_sem, r4, r5]

set_option maxRecDepth 100000 in
set_option maxHeartbeats 2000000 in
theorem rput_and (l c m d : Int) (w : World) (bc : U32 c) (bd : U32 d) :
    Calls Try.prog 57 #[.agg #[.int .u8 l, .int .u32 c], .agg #[.int .u8 m, .int .u32 d], .bool false] w fun e w' => e = .returned (.agg #[.int .u8 (loI l m), .int .u32 (bits .and .u32 c d)]) ∧ Below w.heap.size w w' := by
  rw [← and_end c d bc bd]
  obtain ⟨bc0, bc1⟩ := bc
  obtain ⟨bd0, bd1⟩ := bd
  go_enter Try.func57, Try.ntmps57
  go_wp2_with fail
  have HP := PutAt.start w l c m d _ rfl
  generalize (World.alloc (World.alloc (World.alloc (World.alloc w _) _) _) _) = W at HP ⊢
  go_loopw [8, 9] (fun b i wr => ∃ k : Nat, k ≤ 32 ∧ i = .int .i64 k ∧ b = .int .u32 (bitAt k) ∧ PutIn w wr l c m d (accAt (c.toNat &&& d.toNat) k)) (fun _ i _ => 32 - (intOf i).toNat)
  case atStart => exact ⟨0, by omega, rfl, rfl, PutIn.mk (by rw [acc_zero]; exact HP)⟩
  case round =>
    obtain ⟨k, hk, rfl, rfl, V, X, rfl, hP⟩ := hrel
    by_cases hlt : k < 32
    · obtain ⟨p0, p1, p2, p3, p4, p5⟩ := hP.ext
      obtain ⟨u1, u2⟩ := bit_bounds k hlt
      obtain ⟨u3, u4⟩ := acc_bounds (c.toNat &&& d.toNat) k hlt
      cases h1 : hasB c k <;> cases h2 : hasB d k
      · go_wp2_with (first | (go_at_call 58; (with_reducible refine (Calls.ext (has_is _ _ k _ _ hlt bc0 bc1 h1)).mono ?_); rintro _ _ ⟨rfl, _, rfl⟩) | (go_at_call 58; (with_reducible refine (Calls.ext (has_is _ _ k _ _ hlt bd0 bd1 h2)).mono ?_); rintro _ _ ⟨rfl, _, rfl⟩))
        go_roundw
        case rel => exact ⟨k + 1, by omega, by go_num, by rw [bit_next k hlt], _, _, rfl, by rw [← acc_no _ k hlt (and_bit h1 h2)]; exact hP⟩
        case measure => simp [intOf]; omega
      · go_wp2_with (first | (go_at_call 58; (with_reducible refine (Calls.ext (has_is _ _ k _ _ hlt bc0 bc1 h1)).mono ?_); rintro _ _ ⟨rfl, _, rfl⟩) | (go_at_call 58; (with_reducible refine (Calls.ext (has_is _ _ k _ _ hlt bd0 bd1 h2)).mono ?_); rintro _ _ ⟨rfl, _, rfl⟩))
        go_roundw
        case rel => exact ⟨k + 1, by omega, by go_num, by rw [bit_next k hlt], _, _, rfl, by rw [← acc_no _ k hlt (and_bit h1 h2)]; exact hP⟩
        case measure => simp [intOf]; omega
      · go_wp2_with (first | (go_at_call 58; (with_reducible refine (Calls.ext (has_is _ _ k _ _ hlt bc0 bc1 h1)).mono ?_); rintro _ _ ⟨rfl, _, rfl⟩) | (go_at_call 58; (with_reducible refine (Calls.ext (has_is _ _ k _ _ hlt bd0 bd1 h2)).mono ?_); rintro _ _ ⟨rfl, _, rfl⟩))
        go_roundw
        case rel => exact ⟨k + 1, by omega, by go_num, by rw [bit_next k hlt], _, _, rfl, by rw [← acc_no _ k hlt (and_bit h1 h2)]; exact hP⟩
        case measure => simp [intOf]; omega
      · go_wp2_with (first | (go_at_call 58; (with_reducible refine (Calls.ext (has_is _ _ k _ _ hlt bc0 bc1 h1)).mono ?_); rintro _ _ ⟨rfl, _, rfl⟩) | (go_at_call 58; (with_reducible refine (Calls.ext (has_is _ _ k _ _ hlt bd0 bd1 h2)).mono ?_); rintro _ _ ⟨rfl, _, rfl⟩))
        go_roundw
        case rel => exact ⟨k + 1, by omega, by go_num, by rw [bit_next k hlt], PutIn.mk (by rw [← acc_yes _ k hlt (and_bit h1 h2)]; exact (hP.grow (Ext.below _)).setY _)⟩
        case measure => simp [intOf]; omega
    · obtain rfl : k = 32 := by omega
      have hQ := hP.grow X.below
      obtain ⟨q0, q1, q2, q3, q4, q5, q6, q7, f0, f1, f2, f3⟩ := hQ.cells
      by_cases hlm : l < m
      · have hh : Hid (loI l m = l) := by show loI l m = l; unfold loI; split <;> omega
        go_wp2
        have hR := ((hQ.setX l).setR l (accAt (c.toNat &&& d.toNat) 32))
        obtain ⟨_, _, _, _, r4, r5, _⟩ := hR.cells
        refine bodyPost_ret (v := .agg #[.int .u8 l, .int .u32 (accAt (c.toNat &&& d.toNat) 32)]) ?_ rfl ⟨by rw [hh.out], hR.below⟩
        simp [results, Try.results57, go_sem, r4, r5]
      · have hh : Hid (loI l m = m) := by show loI l m = m; unfold loI; split <;> omega
        go_wp2
        have hR := (((hQ.setX l).setX m).setR m (accAt (c.toNat &&& d.toNat) 32))
        obtain ⟨_, _, _, _, r4, r5, _⟩ := hR.cells
        refine bodyPost_ret (v := .agg #[.int .u8 m, .int .u32 (accAt (c.toNat &&& d.toNat) 32)]) ?_ rfl ⟨by rw [hh.out], hR.below⟩
        simp [results, Try.results57, go_sem, r4, r5]

end Go.Proofs.Ytaloeaihnkkfeaa
