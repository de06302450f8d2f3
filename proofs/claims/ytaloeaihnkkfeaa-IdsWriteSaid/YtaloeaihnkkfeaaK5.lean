import Derived.Test.YtaloeaihnkkfeaaK4
import Derived.Test.YtaloeaihnkkfeaaX11
namespace Go.Proofs.Ytaloeaihnkkfeaa
open Go.RowKit

set_option maxHeartbeats 400000 in
theorem rget_len (a : Option Addr) (len cap : Nat) (w : World) (_h : ((len : Int) == 13) = false) (h' : ((len : Int) != 13) = true) :
    Calls Try.prog 49 #[.slice a len cap] w fun e w' => e = .returned (.tuple #[.agg #[.int .u8 0, .int .u32 0, .int .u8 0, .int .i64 0], .int .i64 8]) ∧ Below w.heap.size w w' := by
  go_enter Try.func49, Try.ntmps49
  go_wp2
  refine bodyPost_ret (v := .tuple #[.agg #[.int .u8 0, .int .u32 0, .int .u8 0, .int .i64 0], .int .i64 8]) (by simp [results, Try.results49, go_sem]) rfl ⟨rfl, ?_⟩
  exact below_alloc (Below.refl _ _) _

set_option maxRecDepth 100000 in
set_option maxHeartbeats 1600000 in
theorem rget_A (b off cap : Nat) (kt : Int) (w : World) (hcap : 13 ≤ cap)
    (hH : Hid (∀ w' : World, Below w.heap.size w w' → Calls Try.prog 51 #[.slice (some ⟨b, off, none⟩) 6 cap] w' fun e w'' => e = .returned (.tuple #[.agg #[.int .u8 0, .int .u32 0, .int .u8 0], .int .i64 8]) ∧ Below w'.heap.size w' w''))
    (hR : Hid (∀ (cap' : Nat) (w' : World), Below w.heap.size w w' → Calls Try.prog 71 #[.slice (some ⟨b, off + 6, none⟩) 7 cap'] w' fun r w'' => r = .returned (.int .i64 kt) ∧ w' = w'')) :
    Calls Try.prog 49 #[.slice (some ⟨b, off, none⟩) 13 cap] w fun e w' => e = .returned (.tuple #[.agg #[.int .u8 0, .int .u32 0, .int .u8 0, .int .i64 0], .int .i64 8]) ∧ Below w.heap.size w w' := by
  have hc6 : (6 : Int) ≤ (cap : Int) := by omega
  have hc1 : ¬ (cap = 6) := by omega
  have B0 := below_alloc (Below.refl w.heap.size w) (.cells #[.int .u8 0, .int .u32 0, .int .u8 0, .int .i64 0] 40)
  have HR := Blk.new w #[.int .u8 0, .int .u32 0, .int .u8 0, .int .i64 0] 40
  go_enter Try.func49, Try.ntmps49
  go_wp2_with fail
  have LV := HR.lt'
  generalize hVe : (World.alloc w _) = V at HR B0 LV ⊢
  clear hVe
  (with_reducible refine (hH.out _ B0).mono ?_); rintro _ w1 ⟨rfl, b1⟩
  go_upto_region 4 with (fail)
  have HX := Blk.new w1 #[.int .u8 0, .int .u32 0, .int .u8 0] 38
  have U := below_alloc b1 (.cells #[.int .u8 0, .int .u32 0, .int .u8 0] 38)
  have hl : w.heap.size < w1.heap.size := Nat.lt_of_lt_of_le LV b1.size
  replace HR := HR.up U
  replace B0 := below_next B0 U
  generalize hP : w1.heap.size = P at HX hl ⊢
  generalize (World.alloc w1 _) = W2 at HX B0 HR U ⊢
  clear hP U b1
  have a0 := HX.here 0 rfl
  have a1 := HX.here 1 rfl
  have a2 := HX.here 2 rfl
  have hX := HX.lt'
  go_region_held3 (fun w' => w'.cell? ⟨P, 0, none⟩ = some (.int .u8 0) ∧ w'.cell? ⟨P, 1, none⟩ = some (.int .u32 0) ∧ w'.cell? ⟨P, 2, none⟩ = some (.int .u8 0))
    (first | go_keep | exact ⟨a0, a1, a2⟩)
    (first | (go_at_call 71; (with_reducible refine (hR.out _ _ (by repeat (first | with_reducible exact B0 | with_reducible refine Below.drew ?_ | with_reducible refine below_alloc ?_ _))).mono ?_); rintro _ _ ⟨rfl, rfl⟩))
  all_goals
    go_upto_region 5 with (fail)
    have HY := Blk.new W2 #[.int .u8 0, .int .u32 0, .int .u8 0, .int .i64 kt] 40
    have BV := below_alloc B0 (.cells #[.int .u8 0, .int .u32 0, .int .u8 0, .int .i64 kt] 40)
    have HR2 := HR.up (below_alloc (Below.refl _ _) (.cells #[.int .u8 0, .int .u32 0, .int .u8 0, .int .i64 kt] 40))
    generalize hQ : W2.heap.size = Q at HY ⊢
    generalize (World.alloc W2 _) = W3 at HY BV HR2 ⊢
    obtain ⟨y, hy⟩ := ext_drew W3
    rw [hy]; clear hy
    have y0 := HY.at 0 rfl
    have y1 := HY.at 1 rfl
    have y2 := HY.at 2 rfl
    have y3 := HY.at 3 rfl
    have r0 := HR2.at 0 rfl
    have r1 := HR2.at 1 rfl
    have r2 := HR2.at 2 rfl
    have r3 := HR2.at 3 rfl
    have f0 := HR2.free 0
    have f1 := HR2.free 1
    have f2 := HR2.free 2
    have f3 := HR2.free 3
    have hB1 : w.heap.size ≤ w.heap.size := Nat.le_refl _
    clear HY HR2 HR HX a0 a1 a2 hQ B0 hX
    go_wp2_with (fail)
    refine bodyPost_ret (v := .tuple #[.agg #[.int .u8 0, .int .u32 0, .int .u8 0, .int .i64 0], .int .i64 8]) (by simp [results, Try.results49, go_sem, r0, r1, r2, r3]) rfl ⟨rfl, ?_⟩
    repeat (first | with_reducible exact ext_below BV _ | with_reducible refine Below.drew ?_ | with_reducible refine Below.setCell ?_ hB1 _)

set_option maxRecDepth 100000 in
set_option maxHeartbeats 1600000 in
theorem rget_B (b off cap : Nat) (x0 kc x5 kt : Int) (w : World) (hcap : 13 ≤ cap)
    (hH : Hid (∀ w' : World, Below w.heap.size w w' → Calls Try.prog 51 #[.slice (some ⟨b, off, none⟩) 6 cap] w' fun e w'' => e = .returned (.tuple #[.agg #[.int .u8 x0, .int .u32 kc, .int .u8 x5], .int .i64 0]) ∧ Below w'.heap.size w' w''))
    (hR : Hid (∀ (cap' : Nat) (w' : World), Below w.heap.size w w' → Calls Try.prog 71 #[.slice (some ⟨b, off + 6, none⟩) 7 cap'] w' fun r w'' => r = .returned (.int .i64 kt) ∧ w' = w'')) (hm : mayI x0 x5 kt = false) :
    Calls Try.prog 49 #[.slice (some ⟨b, off, none⟩) 13 cap] w fun e w' => e = .returned (.tuple #[.agg #[.int .u8 0, .int .u32 0, .int .u8 0, .int .i64 0], .int .i64 8]) ∧ Below w.heap.size w w' := by
  have hc6 : (6 : Int) ≤ (cap : Int) := by omega
  have hc1 : ¬ (cap = 6) := by omega
  have B0 := below_alloc (Below.refl w.heap.size w) (.cells #[.int .u8 0, .int .u32 0, .int .u8 0, .int .i64 0] 40)
  have HR := Blk.new w #[.int .u8 0, .int .u32 0, .int .u8 0, .int .i64 0] 40
  go_enter Try.func49, Try.ntmps49
  go_wp2_with fail
  have LV := HR.lt'
  generalize hVe : (World.alloc w _) = V at HR B0 LV ⊢
  clear hVe
  (with_reducible refine (hH.out _ B0).mono ?_); rintro _ w1 ⟨rfl, b1⟩
  go_upto_region 4 with (fail)
  have HX := Blk.new w1 #[.int .u8 x0, .int .u32 kc, .int .u8 x5] 38
  have U := below_alloc b1 (.cells #[.int .u8 x0, .int .u32 kc, .int .u8 x5] 38)
  have hl : w.heap.size < w1.heap.size := Nat.lt_of_lt_of_le LV b1.size
  replace HR := HR.up U
  replace B0 := below_next B0 U
  generalize hP : w1.heap.size = P at HX hl ⊢
  generalize (World.alloc w1 _) = W2 at HX B0 HR U ⊢
  clear hP U b1
  have a0 := HX.here 0 rfl
  have a1 := HX.here 1 rfl
  have a2 := HX.here 2 rfl
  have hX := HX.lt'
  go_region_held3 (fun w' => w'.cell? ⟨P, 0, none⟩ = some (.int .u8 x0) ∧ w'.cell? ⟨P, 1, none⟩ = some (.int .u32 kc) ∧ w'.cell? ⟨P, 2, none⟩ = some (.int .u8 x5))
    (first | go_keep | exact ⟨a0, a1, a2⟩)
    (first | (go_at_call 71; (with_reducible refine (hR.out _ _ (by repeat (first | with_reducible exact B0 | with_reducible refine Below.drew ?_ | with_reducible refine below_alloc ?_ _))).mono ?_); rintro _ _ ⟨rfl, rfl⟩))
  all_goals
    go_upto_region 5 with (fail)
    have HY := Blk.new W2 #[.int .u8 x0, .int .u32 kc, .int .u8 x5, .int .i64 kt] 40
    have BV := below_alloc B0 (.cells #[.int .u8 x0, .int .u32 kc, .int .u8 x5, .int .i64 kt] 40)
    have HR2 := HR.up (below_alloc (Below.refl _ _) (.cells #[.int .u8 x0, .int .u32 kc, .int .u8 x5, .int .i64 kt] 40))
    generalize hQ : W2.heap.size = Q at HY ⊢
    generalize (World.alloc W2 _) = W3 at HY BV HR2 ⊢
    obtain ⟨y, hy⟩ := ext_drew W3
    rw [hy]; clear hy
    have y0 := HY.at 0 rfl
    have y1 := HY.at 1 rfl
    have y2 := HY.at 2 rfl
    have y3 := HY.at 3 rfl
    have r0 := HR2.at 0 rfl
    have r1 := HR2.at 1 rfl
    have r2 := HR2.at 2 rfl
    have r3 := HR2.at 3 rfl
    have f0 := HR2.free 0
    have f1 := HR2.free 1
    have f2 := HR2.free 2
    have f3 := HR2.free 3
    have hB1 : w.heap.size ≤ w.heap.size := Nat.le_refl _
    clear HY HR2 HR HX a0 a1 a2 hQ B0 hX
    go_wp2_with ((go_at_call 64; (with_reducible refine (Calls.ext (rmayI_is _ _ _ _ _ hm _)).mono ?_); rintro _ _ ⟨rfl, _, rfl⟩))
    refine bodyPost_ret (v := .tuple #[.agg #[.int .u8 0, .int .u32 0, .int .u8 0, .int .i64 0], .int .i64 8]) (by simp [results, Try.results49, go_sem, r0, r1, r2, r3]) rfl ⟨rfl, ?_⟩
    repeat (first | with_reducible exact ext_below BV _ | with_reducible refine Below.drew ?_ | with_reducible refine Below.setCell ?_ hB1 _)

set_option maxRecDepth 100000 in
set_option maxHeartbeats 1600000 in
theorem rget_C (b off cap : Nat) (x0 kc x5 kt : Int) (w : World) (hcap : 13 ≤ cap)
    (hH : Hid (∀ w' : World, Below w.heap.size w w' → Calls Try.prog 51 #[.slice (some ⟨b, off, none⟩) 6 cap] w' fun e w'' => e = .returned (.tuple #[.agg #[.int .u8 x0, .int .u32 kc, .int .u8 x5], .int .i64 0]) ∧ Below w'.heap.size w' w''))
    (hR : Hid (∀ (cap' : Nat) (w' : World), Below w.heap.size w w' → Calls Try.prog 71 #[.slice (some ⟨b, off + 6, none⟩) 7 cap'] w' fun r w'' => r = .returned (.int .i64 kt) ∧ w' = w'')) (hm : mayI x0 x5 kt = true) :
    Calls Try.prog 49 #[.slice (some ⟨b, off, none⟩) 13 cap] w fun e w' => e = .returned (.tuple #[.agg #[.int .u8 x0, .int .u32 kc, .int .u8 x5, .int .i64 kt], .int .i64 0]) ∧ Below w.heap.size w w' := by
  have hc6 : (6 : Int) ≤ (cap : Int) := by omega
  have hc1 : ¬ (cap = 6) := by omega
  have B0 := below_alloc (Below.refl w.heap.size w) (.cells #[.int .u8 0, .int .u32 0, .int .u8 0, .int .i64 0] 40)
  have HR := Blk.new w #[.int .u8 0, .int .u32 0, .int .u8 0, .int .i64 0] 40
  go_enter Try.func49, Try.ntmps49
  go_wp2_with fail
  have LV := HR.lt'
  generalize hVe : (World.alloc w _) = V at HR B0 LV ⊢
  clear hVe
  (with_reducible refine (hH.out _ B0).mono ?_); rintro _ w1 ⟨rfl, b1⟩
  go_upto_region 4 with (fail)
  have HX := Blk.new w1 #[.int .u8 x0, .int .u32 kc, .int .u8 x5] 38
  have U := below_alloc b1 (.cells #[.int .u8 x0, .int .u32 kc, .int .u8 x5] 38)
  have hl : w.heap.size < w1.heap.size := Nat.lt_of_lt_of_le LV b1.size
  replace HR := HR.up U
  replace B0 := below_next B0 U
  generalize hP : w1.heap.size = P at HX hl ⊢
  generalize (World.alloc w1 _) = W2 at HX B0 HR U ⊢
  clear hP U b1
  have a0 := HX.here 0 rfl
  have a1 := HX.here 1 rfl
  have a2 := HX.here 2 rfl
  have hX := HX.lt'
  go_region_held3 (fun w' => w'.cell? ⟨P, 0, none⟩ = some (.int .u8 x0) ∧ w'.cell? ⟨P, 1, none⟩ = some (.int .u32 kc) ∧ w'.cell? ⟨P, 2, none⟩ = some (.int .u8 x5))
    (first | go_keep | exact ⟨a0, a1, a2⟩)
    (first | (go_at_call 71; (with_reducible refine (hR.out _ _ (by repeat (first | with_reducible exact B0 | with_reducible refine Below.drew ?_ | with_reducible refine below_alloc ?_ _))).mono ?_); rintro _ _ ⟨rfl, rfl⟩))
  all_goals
    go_upto_region 5 with (fail)
    have HY := Blk.new W2 #[.int .u8 x0, .int .u32 kc, .int .u8 x5, .int .i64 kt] 40
    have BV := below_alloc B0 (.cells #[.int .u8 x0, .int .u32 kc, .int .u8 x5, .int .i64 kt] 40)
    have HR2 := HR.up (below_alloc (Below.refl _ _) (.cells #[.int .u8 x0, .int .u32 kc, .int .u8 x5, .int .i64 kt] 40))
    generalize hQ : W2.heap.size = Q at HY ⊢
    generalize (World.alloc W2 _) = W3 at HY BV HR2 ⊢
    obtain ⟨y, hy⟩ := ext_drew W3
    rw [hy]; clear hy
    have y0 := HY.at 0 rfl
    have y1 := HY.at 1 rfl
    have y2 := HY.at 2 rfl
    have y3 := HY.at 3 rfl
    have r0 := HR2.at 0 rfl
    have r1 := HR2.at 1 rfl
    have r2 := HR2.at 2 rfl
    have r3 := HR2.at 3 rfl
    have f0 := HR2.free 0
    have f1 := HR2.free 1
    have f2 := HR2.free 2
    have f3 := HR2.free 3
    have hB1 : w.heap.size ≤ w.heap.size := Nat.le_refl _
    clear HY HR2 HR HX a0 a1 a2 hQ B0 hX
    go_wp2_with ((go_at_call 64; (with_reducible refine (Calls.ext (rmayI_is _ _ _ _ _ hm _)).mono ?_); rintro _ _ ⟨rfl, _, rfl⟩))
    refine bodyPost_ret (v := .tuple #[.agg #[.int .u8 x0, .int .u32 kc, .int .u8 x5, .int .i64 kt], .int .i64 0]) (by simp [results, Try.results49, go_sem, r0, r1, r2, r3]) rfl ⟨rfl, ?_⟩
    repeat (first | with_reducible exact ext_below BV _ | with_reducible refine Below.drew ?_ | with_reducible refine Below.setCell ?_ hB1 _)

end Go.Proofs.Ytaloeaihnkkfeaa
