import Derived.Test.YtaloeaihnkkfeaaT2
namespace Go.Proofs.Ytaloeaihnkkfeaa
open Go.RowKit

/-- The four blocks of one call of label.both, at the world w' (w: the world at the call). -/
structure BothAt (w w' : World) (l c m d x y k : Int) : Prop where
  below : Below w.heap.size w w'
  size : w.heap.size + 3 < w'.heap.size
  a : w'.heap[w.heap.size]? = some (.cells #[.int .u8 l, .int .u32 c] 24)
  b : w'.heap[w.heap.size + 1]? = some (.cells #[.int .u8 m, .int .u32 d] 24)
  r : w'.heap[w.heap.size + 1 + 1]? = some (.cells #[.int .u8 x, .int .u32 y] 24)
  e : w'.heap[w.heap.size + 1 + 1 + 1]? = some (.cells #[.int .i64 k] 26)

theorem BothAt.start (w : World) (l c m d : Int) : BothAt w ((((w.alloc (.cells #[.int .u8 l, .int .u32 c] 24)).alloc (.cells #[.int .u8 m, .int .u32 d] 24)).alloc (.cells #[.int .u8 0, .int .u32 0] 24)).alloc (.cells #[.int .i64 0] 26)).drew l c m d 0 0 0 := by
  refine ⟨?_, ?_, ?_, ?_, ?_, ?_⟩
  · exact (((((Below.refl _ _).alloc (Nat.le_refl _) _).alloc (by simp) _).alloc (by simp; omega) _).alloc (by simp; omega) _).drew
  · simp
  · show ((((w.heap.push _).push _).push _).push _)[w.heap.size]? = _
    simp only [Array.getElem?_push, Array.size_push]; simp; rw [if_neg (by omega), if_neg (by omega)]
  · show ((((w.heap.push _).push _).push _).push _)[w.heap.size + 1]? = _
    simp only [Array.getElem?_push, Array.size_push]; simp
  · show ((((w.heap.push _).push _).push _).push _)[w.heap.size + 1 + 1]? = _
    simp only [Array.getElem?_push, Array.size_push]; simp
  · show ((((w.heap.push _).push _).push _).push _)[w.heap.size + 1 + 1 + 1]? = _
    simp only [Array.getElem?_push, Array.size_push]; simp

theorem BothAt.grow {w W w1 : World} {l c m d x y k : Int} (h : BothAt w W l c m d x y k) (hb : Below W.heap.size W w1) : BothAt w w1 l c m d x y k := by
  have := h.size
  have := h.below.size
  have := hb.size
  exact ⟨h.below.trans (hb.mono (by omega)), by omega, by rw [hb.block _ (by omega)]; exact h.a, by rw [hb.block _ (by omega)]; exact h.b,
    by rw [hb.block _ (by omega)]; exact h.r, by rw [hb.block _ (by omega)]; exact h.e⟩

theorem BothAt.drew {w W : World} {l c m d x y k : Int} (h : BothAt w W l c m d x y k) : BothAt w W.drew l c m d x y k :=
  ⟨h.below.drew, h.size, h.a, h.b, h.r, h.e⟩

theorem BothAt.setE {w W : World} {l c m d x y k : Int} (h : BothAt w W l c m d x y k) (k' : Int) : BothAt w (W.setCell ⟨w.heap.size + 1 + 1 + 1, 0, none⟩ (.int .i64 k')) l c m d x y k' := by
  refine ⟨h.below.setCell (by simp; omega) _, by have := h.size; simpa [World.setCell] using this, ?_, ?_, ?_, ?_⟩
  · rw [Below.heap_setCell _ _ _ _ (by simp; omega)]; exact h.a
  · rw [Below.heap_setCell _ _ _ _ (by simp)]; exact h.b
  · rw [Below.heap_setCell _ _ _ _ (by simp)]; exact h.r
  · simp only [World.setCell, Array.getElem?_modify]; rw [if_pos trivial, h.e]; rfl

theorem BothAt.setR {w W : World} {l c m d x y k : Int} (h : BothAt w W l c m d x y k) (x' y' : Int) : BothAt w ((W.setCell ⟨w.heap.size + 1 + 1, 0, none⟩ (.int .u8 x')).setCell ⟨w.heap.size + 1 + 1, 1, none⟩ (.int .u32 y')) l c m d x' y' k := by
  refine ⟨(h.below.setCell (by simp; omega) _).setCell (by simp; omega) _, by have := h.size; simpa [World.setCell] using this, ?_, ?_, ?_, ?_⟩
  · rw [Below.heap_setCell _ _ _ _ (by simp; omega), Below.heap_setCell _ _ _ _ (by simp; omega)]; exact h.a
  · rw [Below.heap_setCell _ _ _ _ (by simp), Below.heap_setCell _ _ _ _ (by simp)]; exact h.b
  · simp only [World.setCell, Array.getElem?_modify]; rw [if_pos trivial, if_pos trivial, h.r]; rfl
  · rw [Below.heap_setCell _ _ _ _ (by simp), Below.heap_setCell _ _ _ _ (by simp)]; exact h.e

/-- What the walk reads of it. -/
theorem BothAt.cells {w W : World} {l c m d x y k : Int} (h : BothAt w W l c m d x y k) :
    W.cell? ⟨w.heap.size, 0, none⟩ = some (.int .u8 l) ∧ W.cell? ⟨w.heap.size, 1, none⟩ = some (.int .u32 c) ∧
    W.cell? ⟨w.heap.size + 1, 0, none⟩ = some (.int .u8 m) ∧ W.cell? ⟨w.heap.size + 1, 1, none⟩ = some (.int .u32 d) ∧
    W.cell? ⟨w.heap.size + 1 + 1, 0, none⟩ = some (.int .u8 x) ∧ W.cell? ⟨w.heap.size + 1 + 1, 1, none⟩ = some (.int .u32 y) ∧
    W.cell? ⟨w.heap.size + 1 + 1 + 1, 0, none⟩ = some (.int .i64 k) ∧
    W.frozen? ⟨w.heap.size + 1 + 1, 0, none⟩ = false ∧ W.frozen? ⟨w.heap.size + 1 + 1, 1, none⟩ = false ∧ W.frozen? ⟨w.heap.size + 1 + 1 + 1, 0, none⟩ = false := by
  have ha := h.a
  have hb := h.b
  have hr := h.r
  have he := h.e
  refine ⟨?_, ?_, ?_, ?_, ?_, ?_, ?_, ?_, ?_, ?_⟩ <;> simp [World.cell?, World.frozen?, ha, hb, hr, he]

theorem BothAt.four {w W : World} {l c m d x y k : Int} (h : BothAt w W l c m d x y k) :
    W.cell? ⟨w.heap.size, 0, none⟩ = some (.int .u8 l) ∧ W.cell? ⟨w.heap.size, 1, none⟩ = some (.int .u32 c) ∧
    W.cell? ⟨w.heap.size + 1, 0, none⟩ = some (.int .u8 m) ∧ W.cell? ⟨w.heap.size + 1, 1, none⟩ = some (.int .u32 d) :=
  ⟨h.cells.1, h.cells.2.1, h.cells.2.2.1, h.cells.2.2.2.1⟩
theorem BothAt.eCell {w W : World} {l c m d x y k : Int} (h : BothAt w W l c m d x y k) :
    W.cell? ⟨w.heap.size + 1 + 1 + 1, 0, none⟩ = some (.int .i64 k) := h.cells.2.2.2.2.2.2.1

set_option maxRecDepth 100000 in
set_option maxHeartbeats 2000000 in
theorem both_ok (l c m d x y : Int) (fn : Nat) (p q : Nat) (w : World) (hl : l ≤ 15) (hm : m ≤ 15)
    (hcf : ∀ (args : Array Value) (w : World), (callFunc fn args).run Try.prog w = .ok (.enter fn args) w)
    (hdo : Hid (∀ w', Below w.heap.size w w' → Calls Try.prog fn #[.pointer (some ⟨p, 0, none⟩), .pointer (some ⟨q, 0, none⟩)] w' fun e w'' => e = .returned (.agg #[.int .u8 x, .int .u32 y]) ∧ Below w'.heap.size w' w'')) :
    Calls Try.prog 53 #[.agg #[.int .u8 l, .int .u32 c], .agg #[.int .u8 m, .int .u32 d], .func (.func fn) #[] #[.pointer (some ⟨p, 0, none⟩), .pointer (some ⟨q, 0, none⟩)]] w
      fun e w' => e = .returned (.tuple #[.agg #[.int .u8 x, .int .u32 y], .int .i64 0]) ∧ Below w.heap.size w w' := by
  have hmf : ∀ (fn : Fn) (first cap : Array Value) (w : World), (Instr.makeFunc fn first cap).run Try.prog w = .ok (.func fn first cap) w := fun _ _ _ _ => rfl
  have k1 : chk l = 0 := if_pos hl
  have k2 : chk m = 0 := if_pos hm
  have hB0 := BothAt.start w l c m d
  go_enter_defers Try.func53, Try.ntmps53
  go_wp2_with fail
  go_region_held3 (fun w' => w'.cell? ⟨w.heap.size, 0, none⟩ = some (.int .u8 l) ∧ w'.cell? ⟨w.heap.size, 1, none⟩ = some (.int .u32 c) ∧
      w'.cell? ⟨w.heap.size + 1, 0, none⟩ = some (.int .u8 m) ∧ w'.cell? ⟨w.heap.size + 1, 1, none⟩ = some (.int .u32 d))
    (first | with_reducible exact hB0.four | with_reducible exact (hB0.setE _).four)
    (first | (go_at_call 17; (with_reducible refine (check_any _ _ _).mono ?_); rintro e w1 ⟨rfl, hb1⟩; replace hB0 := hB0.grow hb1; clear hb1; obtain ⟨_, _, _, _, _, _, q6, _, _, q9⟩ := hB0.cells))
  replace hB0 := (hB0.setE 0).drew
  go_wp2_with fail
  generalize (World.setCell _ _ _) = W at hB0 ⊢
  obtain ⟨_, _, _, _, r0, r1, q0, f0, f1, f2⟩ := hB0.cells
  go_region_held3 (fun w' => w'.cell? ⟨w.heap.size + 1 + 1 + 1, 0, none⟩ = some (.int .i64 0))
    (first | with_reducible exact hB0.eCell | with_reducible exact ((hB0.setR _ _)).eCell | with_reducible exact ((hB0.setR _ _).setE _).eCell)
    (first | ((with_reducible refine (hdo.out _ hB0.below).mono ?_); rintro e w1 ⟨rfl, hb1⟩; replace hB0 := hB0.grow hb1; clear hb1; obtain ⟨_, _, _, _, r0, r1, q0, f0, f1, f2⟩ := hB0.cells))
  replace hB0 := (hB0.setR x y).setE 0
  generalize (World.setCell _ _ _) = W3 at hB0 ⊢
  go_wp2
  refine leaves_cons (f := 72) (args := #[.pointer (some ⟨w.heap.size + 1 + 1 + 1, 0, none⟩), .pointer (some ⟨w.heap.size + 1 + 1, 0, none⟩)]) (by simp) (by simp [go_sem]) ?_
  refine (both1_ok _ _ _ .returning hB0.eCell).mono ?_
  rintro e u' w'' ⟨rfl, rfl, rfl⟩
  obtain ⟨_, _, _, _, r0, r1, q0, f0, f1, f2⟩ := hB0.cells
  refine ⟨.tuple #[.agg #[.int .u8 x, .int .u32 y], .int .i64 0], ?_, rfl, hB0.below⟩
  simp [results, Try.results53, go_sem, r0, r1, q0]

set_option maxRecDepth 100000 in
set_option maxHeartbeats 2000000 in
theorem both_bad (l c m d x y k1 k2 : Int) (fn : Nat) (p q : Nat) (w : World) (hk : (k1 = 8 ∧ k2 = 0) ∨ (k1 = 0 ∧ k2 = 8) ∨ (k1 = 8 ∧ k2 = 8)) (hl : chk l = k1) (hm : chk m = k2)
    (hcf : ∀ (args : Array Value) (w : World), (callFunc fn args).run Try.prog w = .ok (.enter fn args) w)
    (hdo : Hid (∀ w', Below w.heap.size w w' → Calls Try.prog fn #[.pointer (some ⟨p, 0, none⟩), .pointer (some ⟨q, 0, none⟩)] w' fun e w'' => e = .returned (.agg #[.int .u8 x, .int .u32 y]) ∧ Below w'.heap.size w' w'')) :
    Calls Try.prog 53 #[.agg #[.int .u8 l, .int .u32 c], .agg #[.int .u8 m, .int .u32 d], .func (.func fn) #[] #[.pointer (some ⟨p, 0, none⟩), .pointer (some ⟨q, 0, none⟩)]] w
      fun e w' => e = .returned (.tuple #[.agg #[.int .u8 0, .int .u32 0], .int .i64 8]) ∧ Below w.heap.size w w' := by
  have hmf : ∀ (fn : Fn) (first cap : Array Value) (w : World), (Instr.makeFunc fn first cap).run Try.prog w = .ok (.func fn first cap) w := fun _ _ _ _ => rfl
  rcases hk with ⟨rfl, rfl⟩ | ⟨rfl, rfl⟩ | ⟨rfl, rfl⟩
  all_goals
    have hB0 := BothAt.start w l c m d
    go_enter_defers Try.func53, Try.ntmps53
    go_wp2_with fail
    go_region_held3 (fun w' => w'.cell? ⟨w.heap.size, 0, none⟩ = some (.int .u8 l) ∧ w'.cell? ⟨w.heap.size, 1, none⟩ = some (.int .u32 c) ∧
        w'.cell? ⟨w.heap.size + 1, 0, none⟩ = some (.int .u8 m) ∧ w'.cell? ⟨w.heap.size + 1, 1, none⟩ = some (.int .u32 d))
      (first | with_reducible exact hB0.four | with_reducible exact (hB0.setE _).four)
      (first | (go_at_call 17; (with_reducible refine (check_any _ _ _).mono ?_); rintro e w1 ⟨rfl, hb1⟩; replace hB0 := hB0.grow hb1; clear hb1; obtain ⟨_, _, _, _, _, _, q6, _, _, q9⟩ := hB0.cells))
    replace hB0 := (hB0.setE 8).drew
    go_wp2_with fail
    generalize (World.setCell _ _ _) = W at hB0 ⊢
    obtain ⟨_, _, _, _, r0, r1, q0, f0, f1, f2⟩ := hB0.cells
    go_region_held3 (fun w' => w'.cell? ⟨w.heap.size + 1 + 1 + 1, 0, none⟩ = some (.int .i64 8))
      (first | with_reducible exact hB0.eCell | with_reducible exact ((hB0.setR _ _)).eCell | with_reducible exact ((hB0.setR _ _).setE _).eCell)
      (first | ((with_reducible refine (hdo.out _ hB0.below).mono ?_); rintro e w1 ⟨rfl, hb1⟩; replace hB0 := hB0.grow hb1; clear hb1; obtain ⟨_, _, _, _, r0, r1, q0, f0, f1, f2⟩ := hB0.cells))
    replace hB0 := (hB0.setR x y).setE 8
    generalize (World.setCell _ _ _) = W3 at hB0 ⊢
    go_wp2
    refine leaves_cons (f := 72) (args := #[.pointer (some ⟨w.heap.size + 1 + 1 + 1, 0, none⟩), .pointer (some ⟨w.heap.size + 1 + 1, 0, none⟩)]) (by simp) (by simp [go_sem]) ?_
    obtain ⟨_, _, _, _, r0, r1, q0, f0, f1, f2⟩ := hB0.cells
    refine (both1_bad _ _ _ .returning 8 x y rfl q0 r0 r1 f0 f1).mono ?_
    rintro e u' w'' ⟨rfl, rfl, rfl⟩
    have hB1 := hB0.setR 0 0
    obtain ⟨_, _, _, _, r0, r1, q0, f0, f1, f2⟩ := hB1.cells
    refine ⟨.tuple #[.agg #[.int .u8 0, .int .u32 0], .int .i64 8], ?_, rfl, hB1.below⟩
    simp [results, Try.results53, go_sem, r0, r1, q0]

end Go.Proofs.Ytaloeaihnkkfeaa
