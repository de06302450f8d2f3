import Derived.Test.YtaloeaihnkkfeaaT1
import Derived.Defers
import Derived.Deep.RegionWith
import Derived.Deep.RegionHeld3
namespace Go.Proofs.Ytaloeaihnkkfeaa
open Go.RowKit

def hiI (l m : Int) : Int := if l < m then m else l
def loI (l m : Int) : Int := if m < l then m else l

set_option maxHeartbeats 400000 in
theorem join1_any (l c m d : Int) (p q : Nat) (w : World) (hp : p < w.heap.size) (hq : q < w.heap.size)
    (h1 : w.cell? ⟨p, 0, none⟩ = some (.int .u8 l)) (h2 : w.cell? ⟨p, 1, none⟩ = some (.int .u32 c))
    (h3 : w.cell? ⟨q, 0, none⟩ = some (.int .u8 m)) (h4 : w.cell? ⟨q, 1, none⟩ = some (.int .u32 d)) :
    Calls Try.prog 54 #[.pointer (some ⟨p, 0, none⟩), .pointer (some ⟨q, 0, none⟩)] w fun e w' => e = .returned (.agg #[.int .u8 (hiI l m), .int .u32 (bits .or .u32 c d)]) ∧ Below w.heap.size w w' := by
  by_cases h : l < m
  · rw [show hiI l m = m from if_pos h]
    go_enter Try.func54, Try.ntmps54
    go_wp2
    exact bodyPost_ret (v := .agg #[.int .u8 m, .int .u32 (bits .or .u32 c d)]) (by simp [results, Try.results54, go_sem]) rfl ⟨rfl, (Below.refl _ _).alloc (Nat.le_refl _) _⟩
  · rw [show hiI l m = l from if_neg h]
    go_enter Try.func54, Try.ntmps54
    go_wp2
    exact bodyPost_ret (v := .agg #[.int .u8 l, .int .u32 (bits .or .u32 c d)]) (by simp [results, Try.results54, go_sem]) rfl ⟨rfl, (Below.refl _ _).alloc (Nat.le_refl _) _⟩

set_option maxHeartbeats 400000 in
theorem meet1_any (l c m d : Int) (p q : Nat) (w : World) (hp : p < w.heap.size) (hq : q < w.heap.size)
    (h1 : w.cell? ⟨p, 0, none⟩ = some (.int .u8 l)) (h2 : w.cell? ⟨p, 1, none⟩ = some (.int .u32 c))
    (h3 : w.cell? ⟨q, 0, none⟩ = some (.int .u8 m)) (h4 : w.cell? ⟨q, 1, none⟩ = some (.int .u32 d)) :
    Calls Try.prog 55 #[.pointer (some ⟨p, 0, none⟩), .pointer (some ⟨q, 0, none⟩)] w fun e w' => e = .returned (.agg #[.int .u8 (loI l m), .int .u32 (bits .and .u32 c d)]) ∧ Below w.heap.size w w' := by
  by_cases h : m < l
  · rw [show loI l m = m from if_pos h]
    go_enter Try.func55, Try.ntmps55
    go_wp2
    exact bodyPost_ret (v := .agg #[.int .u8 m, .int .u32 (bits .and .u32 c d)]) (by simp [results, Try.results55, go_sem]) rfl ⟨rfl, (Below.refl _ _).alloc (Nat.le_refl _) _⟩
  · rw [show loI l m = l from if_neg h]
    go_enter Try.func55, Try.ntmps55
    go_wp2
    exact bodyPost_ret (v := .agg #[.int .u8 l, .int .u32 (bits .and .u32 c d)]) (by simp [results, Try.results55, go_sem]) rfl ⟨rfl, (Below.refl _ _).alloc (Nat.le_refl _) _⟩

set_option maxHeartbeats 400000 in
theorem both1_ok (p q : Nat) (w : World) (u : FrameMode) (hp : w.cell? ⟨p, 0, none⟩ = some (.int .i64 0)) :
    CallsD Try.prog 72 #[.pointer (some ⟨p, 0, none⟩), .pointer (some ⟨q, 0, none⟩)] u w fun e u' w' => u' = u ∧ e = .returned (.tuple #[]) ∧ w' = w := by
  go_enter_d Try.func72, Try.ntmps72
  go_wp2
  go_end0
  exact ⟨rfl, rfl⟩

set_option maxHeartbeats 400000 in
theorem both1_bad (p q : Nat) (w : World) (u : FrameMode) (k l c : Int) (hk : (k != 0) = true) (hp : w.cell? ⟨p, 0, none⟩ = some (.int .i64 k))
    (h1 : w.cell? ⟨q, 0, none⟩ = some (.int .u8 l)) (h2 : w.cell? ⟨q, 1, none⟩ = some (.int .u32 c))
    (f1 : w.frozen? ⟨q, 0, none⟩ = false) (f2 : w.frozen? ⟨q, 1, none⟩ = false) :
    CallsD Try.prog 72 #[.pointer (some ⟨p, 0, none⟩), .pointer (some ⟨q, 0, none⟩)] u w fun e u' w' => u' = u ∧ e = .returned (.tuple #[]) ∧ w' = (w.setCell ⟨q, 0, none⟩ (.int .u8 0)).setCell ⟨q, 1, none⟩ (.int .u32 0) := by
  go_enter_d Try.func72, Try.ntmps72
  go_wp2
  go_end0
  exact ⟨rfl, rfl⟩

end Go.Proofs.Ytaloeaihnkkfeaa
