import Derived.Test.YtaloeaihnkkfeaaK3
import Derived.Test.YtaloeaihnkkfeaaW13
namespace Go.Proofs.Ytaloeaihnkkfeaa
open Go.RowKit

theorem rnum_sub (b off len cap' i n : Nat) (xs : List Int) (w : World) (h : BytesIn w b off len xs) (hi : i + n ≤ len) (hn : n ≤ 7) (hx : U8s xs) :
    Calls Try.prog 71 #[.slice (some ⟨b, off + i, none⟩) n cap'] w fun e w' => e = .returned (.int .i64 (numL ((xs.drop i).take n))) ∧ w = w' :=
  rnum_any b (off + i) n cap' _ w (h.sub i n hi) hn (sub_u8s hx i n)
structure CatsR (W : World) (b off : Nat) (kc : Int) : Prop where
  reads : ∀ (cap : Nat) (w' : World), Below W.heap.size W w' → Calls Try.prog 71 #[.slice (some ⟨b, off + 1, none⟩) 4 cap] w' fun e w'' => e = .returned (.int .i64 kc) ∧ w' = w''
theorem CatsR.mk' {w : World} {b off len : Nat} {xs : List Int} (h : BytesIn w b off len xs) (hl : 6 ≤ len) (hx : U8s xs) : CatsR w b off (catsOf xs) :=
  ⟨fun cap w' hb => rnum_sub b off len cap 1 4 xs w' (h.up hb) (by omega) (by omega) hx⟩

set_option maxHeartbeats 400000 in
theorem rgetH_len (a : Option Addr) (len cap : Nat) (w : World) (_h : ((len : Int) == 6) = false) (h' : ((len : Int) != 6) = true) :
    Calls Try.prog 51 #[.slice a len cap] w fun e w' => e = .returned (.tuple #[.agg #[.int .u8 0, .int .u32 0, .int .u8 0], .int .i64 8]) ∧ Below w.heap.size w w' := by
  go_enter Try.func51, Try.ntmps51
  go_wp2
  refine bodyPost_ret (v := .tuple #[.agg #[.int .u8 0, .int .u32 0, .int .u8 0], .int .i64 8]) (by simp [results, Try.results51, go_sem]) rfl ⟨rfl, ?_⟩
  exact below_alloc (Below.refl _ _) _

set_option maxHeartbeats 400000 in
theorem getH_len (a : Option Addr) (len cap : Nat) (w : World) (_h : ((len : Int) == 6) = false) (h' : ((len : Int) != 6) = true) :
    Calls Try.prog 50 #[.slice a len cap] w fun e w' => e = .returned (.tuple #[.agg #[.int .u8 0, .int .u32 0, .int .u8 0], .int .i64 8]) ∧ Below w.heap.size w w' := by
  go_enter Try.func50, Try.ntmps50
  go_wp2
  refine bodyPost_ret (v := .tuple #[.agg #[.int .u8 0, .int .u32 0, .int .u8 0], .int .i64 8]) (by simp [results, Try.results50, go_sem]) rfl ⟨rfl, ?_⟩
  exact below_alloc (Below.refl _ _) _

set_option maxRecDepth 100000 in
set_option maxHeartbeats 1600000 in
theorem rgetH_ok (b off cap : Nat) (x0 x5 kc : Int) (w : World) (hlt : b < w.heap.size) (c0 : w.cell? ⟨b, off, none⟩ = some (.int .u8 x0)) (c5 : w.cell? ⟨b, off + 5, none⟩ = some (.int .u8 x5))
    (k0 : 0 ≤ kc) (k1 : kc < 4294967296) (hC : CatsR w b off kc) (hcap : 6 ≤ cap) (hr : mayH x0 x5 = true) :
    Calls Try.prog 51 #[.slice (some ⟨b, off, none⟩) 6 cap] w fun e w' => e = .returned (.tuple #[.agg #[.int .u8 x0, .int .u32 kc, .int .u8 x5], .int .i64 0]) ∧ Below w.heap.size w w' := by
  have hwr : IntKind.u32.wrap kc = kc := by simp [IntKind.wrap_u32]; omega
  have hc5 : (5 : Int) ≤ (cap : Int) := by omega
  have hc1 : ¬ (cap = 1) := by omega
  have B0 := below_alloc (Below.refl w.heap.size w) (.cells #[.int .u8 0, .int .u32 0, .int .u8 0] 38)
  have HR := Blk.new w #[.int .u8 0, .int .u32 0, .int .u8 0] 38
  go_enter Try.func51, Try.ntmps51
  go_wp2_with fail
  have d0 := (B0.cell (p := ⟨b, off, none⟩) hlt).trans c0
  have d5 := (B0.cell (p := ⟨b, off + 5, none⟩) hlt).trans c5
  have hV := HR.lt'
  generalize hVe : (World.alloc w _) = V at HR B0 d0 d5 hV ⊢
  have bV : b < V.heap.size := by omega
  clear hVe c0 c5
  go_region_held3 (fun w' => w'.cell? ⟨b, off, none⟩ = some (.int .u8 x0) ∧ w'.cell? ⟨b, off + 5, none⟩ = some (.int .u8 x5))
    (first | go_keep | exact ⟨d0, d5⟩)
    (first | (go_at_call 71; (with_reducible refine (hC.reads _ _ (by repeat (first | with_reducible exact B0 | with_reducible refine Below.drew ?_ | with_reducible refine below_alloc ?_ _))).mono ?_); rintro _ _ ⟨rfl, rfl⟩))
  all_goals
    go_wp2_with fail
    have HX := Blk.new V #[.int .u8 x0, .int .u32 kc, .int .u8 x5] 38
    have BV := below_alloc B0 (.cells #[.int .u8 x0, .int .u32 kc, .int .u8 x5] 38)
    have HR2 := HR.up (below_alloc (Below.refl _ _) (.cells #[.int .u8 x0, .int .u32 kc, .int .u8 x5] 38))
    have hPV := hV
    generalize hP : V.heap.size = P at HX hPV ⊢
    generalize (World.alloc V _) = W2 at HX BV HR2 ⊢
    obtain ⟨y, hy⟩ := ext_drew W2
    rw [hy]; clear hy
    have a0 := HX.at 0 rfl
    have a1 := HX.at 1 rfl
    have a2 := HX.at 2 rfl
    have r0 := HR2.at 0 rfl
    have r1 := HR2.at 1 rfl
    have r2 := HR2.at 2 rfl
    have f0 := HR2.free 0
    have f1 := HR2.free 1
    have f2 := HR2.free 2
    have hB1 : w.heap.size ≤ w.heap.size := Nat.le_refl _
    clear HX HR2 HR d0 d5 hP B0 hV bV
    go_wp2_with ((go_at_call 65; (with_reducible refine (Calls.ext (rmayH_is _ _ _ _ hr _)).mono ?_); rintro _ _ ⟨rfl, _, rfl⟩))
    refine bodyPost_ret (v := .tuple #[.agg #[.int .u8 x0, .int .u32 kc, .int .u8 x5], .int .i64 0]) (by simp [results, Try.results51, go_sem, r0, r1, r2]) rfl ⟨rfl, ?_⟩
    repeat (first | with_reducible exact ext_below BV _ | with_reducible refine Below.drew ?_ | with_reducible refine Below.setCell ?_ hB1 _)

set_option maxRecDepth 100000 in
set_option maxHeartbeats 1600000 in
theorem getH_ok (b off cap : Nat) (x0 x5 kc : Int) (w : World)
    (hN : Hid (∀ w' : World, Below w.heap.size w w' → Calls Try.prog 69 #[.slice (some ⟨b, off, none⟩) 6 cap] w' fun e w'' => e = .returned (.agg #[.int .u8 x0, .int .u32 kc, .int .u8 x5, .int .i64 0]) ∧ Below w'.heap.size w' w'')) :
    Calls Try.prog 50 #[.slice (some ⟨b, off, none⟩) 6 cap] w fun e w' => e = .returned (.tuple #[.agg #[.int .u8 x0, .int .u32 kc, .int .u8 x5], .int .i64 0]) ∧ Below w.heap.size w w' := by
  have B0 := below_alloc (Below.refl w.heap.size w) (.cells #[.int .u8 0, .int .u32 0, .int .u8 0] 38)
  have HR := Blk.new w #[.int .u8 0, .int .u32 0, .int .u8 0] 38
  go_enter Try.func50, Try.ntmps50
  go_wp2_with fail
  have LV := HR.lt'
  generalize hVe : (World.alloc w _) = V at HR B0 LV ⊢
  clear hVe
  (with_reducible refine (hN.out _ B0).mono ?_); rintro _ w1 ⟨rfl, b1⟩
  go_upto_region 4 with (fail)
  have HX := Blk.new w1 #[.int .u8 x0, .int .u32 kc, .int .u8 x5, .int .i64 0] 94
  have U := below_alloc b1 (.cells #[.int .u8 x0, .int .u32 kc, .int .u8 x5, .int .i64 0] 94)
  replace HR := HR.up U
  replace B0 := below_next B0 U
  have hl : w.heap.size < w1.heap.size := Nat.lt_of_lt_of_le (by have := HR.lt'; have := (show w.heap.size < V.heap.size from LV); omega) b1.size
  generalize hP : w1.heap.size = P at HX hl ⊢
  generalize (World.alloc w1 _) = W2 at HX B0 HR U ⊢
  clear hP U b1
  have a0 := HX.here 0 rfl
  have a1 := HX.here 1 rfl
  have a2 := HX.here 2 rfl
  have a3 := HX.here 3 rfl
  have r0 := HR.here 0 rfl
  have r1 := HR.here 1 rfl
  have r2 := HR.here 2 rfl
  have f0 := HR.open 0
  have f1 := HR.open 1
  have f2 := HR.open 2
  have hn1 : ¬ (w.heap.size = P) := by omega
  have hn2 : ¬ (P = w.heap.size) := by omega
  have hB1 : w.heap.size ≤ w.heap.size := Nat.le_refl _
  clear HX HR
  go_wp2_with fail
  refine bodyPost_ret (v := .tuple #[.agg #[.int .u8 x0, .int .u32 kc, .int .u8 x5], .int .i64 0]) (by simp [results, Try.results50, go_sem, r0, r1, r2]) rfl ⟨rfl, ?_⟩
  repeat (first | with_reducible exact B0 | with_reducible refine Below.drew ?_ | with_reducible refine Below.setCell ?_ hB1 _)

set_option maxRecDepth 100000 in
set_option maxHeartbeats 1600000 in
theorem rgetH_no (b off cap : Nat) (x0 x5 kc : Int) (w : World) (hlt : b < w.heap.size) (c0 : w.cell? ⟨b, off, none⟩ = some (.int .u8 x0)) (c5 : w.cell? ⟨b, off + 5, none⟩ = some (.int .u8 x5))
    (k0 : 0 ≤ kc) (k1 : kc < 4294967296) (hC : CatsR w b off kc) (hcap : 6 ≤ cap) (hr : mayH x0 x5 = false) :
    Calls Try.prog 51 #[.slice (some ⟨b, off, none⟩) 6 cap] w fun e w' => e = .returned (.tuple #[.agg #[.int .u8 0, .int .u32 0, .int .u8 0], .int .i64 8]) ∧ Below w.heap.size w w' := by
  have hwr : IntKind.u32.wrap kc = kc := by simp [IntKind.wrap_u32]; omega
  have hc5 : (5 : Int) ≤ (cap : Int) := by omega
  have hc1 : ¬ (cap = 1) := by omega
  have B0 := below_alloc (Below.refl w.heap.size w) (.cells #[.int .u8 0, .int .u32 0, .int .u8 0] 38)
  have HR := Blk.new w #[.int .u8 0, .int .u32 0, .int .u8 0] 38
  go_enter Try.func51, Try.ntmps51
  go_wp2_with fail
  have d0 := (B0.cell (p := ⟨b, off, none⟩) hlt).trans c0
  have d5 := (B0.cell (p := ⟨b, off + 5, none⟩) hlt).trans c5
  have hV := HR.lt'
  generalize hVe : (World.alloc w _) = V at HR B0 d0 d5 hV ⊢
  have bV : b < V.heap.size := by omega
  clear hVe c0 c5
  go_region_held3 (fun w' => w'.cell? ⟨b, off, none⟩ = some (.int .u8 x0) ∧ w'.cell? ⟨b, off + 5, none⟩ = some (.int .u8 x5))
    (first | go_keep | exact ⟨d0, d5⟩)
    (first | (go_at_call 71; (with_reducible refine (hC.reads _ _ (by repeat (first | with_reducible exact B0 | with_reducible refine Below.drew ?_ | with_reducible refine below_alloc ?_ _))).mono ?_); rintro _ _ ⟨rfl, rfl⟩))
  all_goals
    go_wp2_with fail
    have HX := Blk.new V #[.int .u8 x0, .int .u32 kc, .int .u8 x5] 38
    have BV := below_alloc B0 (.cells #[.int .u8 x0, .int .u32 kc, .int .u8 x5] 38)
    have HR2 := HR.up (below_alloc (Below.refl _ _) (.cells #[.int .u8 x0, .int .u32 kc, .int .u8 x5] 38))
    have hPV := hV
    generalize hP : V.heap.size = P at HX hPV ⊢
    generalize (World.alloc V _) = W2 at HX BV HR2 ⊢
    obtain ⟨y, hy⟩ := ext_drew W2
    rw [hy]; clear hy
    have a0 := HX.at 0 rfl
    have a1 := HX.at 1 rfl
    have a2 := HX.at 2 rfl
    have r0 := HR2.at 0 rfl
    have r1 := HR2.at 1 rfl
    have r2 := HR2.at 2 rfl
    have f0 := HR2.free 0
    have f1 := HR2.free 1
    have f2 := HR2.free 2
    have hB1 : w.heap.size ≤ w.heap.size := Nat.le_refl _
    clear HX HR2 HR d0 d5 hP B0 hV bV
    go_wp2_with ((go_at_call 65; (with_reducible refine (Calls.ext (rmayH_is _ _ _ _ hr _)).mono ?_); rintro _ _ ⟨rfl, _, rfl⟩))
    refine bodyPost_ret (v := .tuple #[.agg #[.int .u8 0, .int .u32 0, .int .u8 0], .int .i64 8]) (by simp [results, Try.results51, go_sem, r0, r1, r2]) rfl ⟨rfl, ?_⟩
    repeat (first | with_reducible exact ext_below BV _ | with_reducible refine Below.drew ?_ | with_reducible refine Below.setCell ?_ hB1 _)

set_option maxRecDepth 100000 in
set_option maxHeartbeats 1600000 in
theorem getH_no (b off cap : Nat) (x0 x5 kc : Int) (w : World)
    (hN : Hid (∀ w' : World, Below w.heap.size w w' → Calls Try.prog 69 #[.slice (some ⟨b, off, none⟩) 6 cap] w' fun e w'' => e = .returned (.agg #[.int .u8 x0, .int .u32 kc, .int .u8 x5, .int .i64 8]) ∧ Below w'.heap.size w' w'')) :
    Calls Try.prog 50 #[.slice (some ⟨b, off, none⟩) 6 cap] w fun e w' => e = .returned (.tuple #[.agg #[.int .u8 0, .int .u32 0, .int .u8 0], .int .i64 8]) ∧ Below w.heap.size w w' := by
  have B0 := below_alloc (Below.refl w.heap.size w) (.cells #[.int .u8 0, .int .u32 0, .int .u8 0] 38)
  have HR := Blk.new w #[.int .u8 0, .int .u32 0, .int .u8 0] 38
  go_enter Try.func50, Try.ntmps50
  go_wp2_with fail
  have LV := HR.lt'
  generalize hVe : (World.alloc w _) = V at HR B0 LV ⊢
  clear hVe
  (with_reducible refine (hN.out _ B0).mono ?_); rintro _ w1 ⟨rfl, b1⟩
  go_upto_region 4 with (fail)
  have HX := Blk.new w1 #[.int .u8 x0, .int .u32 kc, .int .u8 x5, .int .i64 8] 94
  have U := below_alloc b1 (.cells #[.int .u8 x0, .int .u32 kc, .int .u8 x5, .int .i64 8] 94)
  replace HR := HR.up U
  replace B0 := below_next B0 U
  have hl : w.heap.size < w1.heap.size := Nat.lt_of_lt_of_le (by have := HR.lt'; have := (show w.heap.size < V.heap.size from LV); omega) b1.size
  generalize hP : w1.heap.size = P at HX hl ⊢
  generalize (World.alloc w1 _) = W2 at HX B0 HR U ⊢
  clear hP U b1
  have a0 := HX.here 0 rfl
  have a1 := HX.here 1 rfl
  have a2 := HX.here 2 rfl
  have a3 := HX.here 3 rfl
  have r0 := HR.here 0 rfl
  have r1 := HR.here 1 rfl
  have r2 := HR.here 2 rfl
  have f0 := HR.open 0
  have f1 := HR.open 1
  have f2 := HR.open 2
  have hn1 : ¬ (w.heap.size = P) := by omega
  have hn2 : ¬ (P = w.heap.size) := by omega
  have hB1 : w.heap.size ≤ w.heap.size := Nat.le_refl _
  clear HX HR
  go_wp2_with fail
  go_region
  go_wp2
  refine bodyPost_ret (v := .tuple #[.agg #[.int .u8 0, .int .u32 0, .int .u8 0], .int .i64 8]) (by simp [results, Try.results50, go_sem, r0, r1, r2]) rfl ⟨rfl, ?_⟩
  repeat (first | with_reducible exact B0 | with_reducible refine Below.drew ?_ | with_reducible refine Below.setCell ?_ hB1 _)

end Go.Proofs.Ytaloeaihnkkfeaa
