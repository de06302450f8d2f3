import Derived.Test.YtaloeaihnkkfeaaJ1
namespace Go.Proofs.Ytaloeaihnkkfeaa
open Go.RowKit

/-- The handle of six first bytes. -/
def catsOf (xs : List Int) : Int := numL ((xs.drop 1).take 4)
theorem sub_u8s {xs : List Int} (h : U8s xs) (i n : Nat) : U8s ((xs.drop i).take n) := fun x hx => h x (List.mem_of_mem_drop (List.mem_of_mem_take hx))
theorem catsOf_bounds (xs : List Int) (h : U8s xs) (hl : 5 ≤ xs.length) : 0 ≤ catsOf xs ∧ catsOf xs < 4294967296 := by
  have h1 : ((xs.drop 1).take 4).length = 4 := by simp; omega
  have := numL_bounds ((xs.drop 1).take 4) (sub_u8s h 1 4) 4 (by omega)
  rw [List.take_of_length_le (by omega)] at this
  exact ⟨this.1, Int.lt_of_lt_of_le this.2 (by decide)⟩

theorem read_sub (b off len cap' i n : Nat) (xs : List Int) (w : World) (h : BytesIn w b off len xs) (hi : i + n ≤ len) (hn : n ≤ 7) (hx : U8s xs) :
    Calls Try.prog 70 #[.slice (some ⟨b, off + i, none⟩) n cap'] w fun e w' => e = .returned (.int .i64 (numL ((xs.drop i).take n))) ∧ w = w' :=
  read_any b (off + i) n cap' _ w (h.sub i n hi) hn (sub_u8s hx i n)

theorem ext_drew (W : World) : ∃ x : Ext W, W.drew = x.at' := ⟨⟨W.drew, (Below.refl _ _).drew⟩, rfl⟩
/-- The bytes at a slice's second place. -/
structure Cats (W : World) (b off : Nat) (kc : Int) : Prop where
  reads : ∀ (cap : Nat) (w' : World), Below W.heap.size W w' → Calls Try.prog 70 #[.slice (some ⟨b, off + 1, none⟩) 4 cap] w' fun e w'' => e = .returned (.int .i64 kc) ∧ w' = w''
theorem Cats.mk' {w : World} {b off len : Nat} {xs : List Int} (h : BytesIn w b off len xs) (hl : 6 ≤ len) (hx : U8s xs) : Cats w b off (catsOf xs) :=
  ⟨fun cap w' hb => read_sub b off len cap 1 4 xs w' (h.up hb) (by omega) (by omega) hx⟩

set_option maxRecDepth 100000 in
set_option maxHeartbeats 1600000 in
theorem named_lit (b off len cap : Nat) (x0 x5 kc : Int) (r : Bool) (w : World) (hlt : b < w.heap.size) (c0 : w.cell? ⟨b, off, none⟩ = some (.int .u8 x0)) (c5 : w.cell? ⟨b, off + 5, none⟩ = some (.int .u8 x5))
    (k0 : 0 ≤ kc) (k1 : kc < 4294967296) (hC : Cats w b off kc) (hl : len = 6 ∨ len = 13) (hcap : len ≤ cap) (hr : mayH x0 x5 = r) :
    Calls Try.prog 69 #[.slice (some ⟨b, off, none⟩) len cap] w fun e w' => e = .returned (.agg #[.int .u8 x0, .int .u32 kc, .int .u8 x5, .int .i64 (rt r)]) ∧ Below w.heap.size w w' := by
  have hwr : IntKind.u32.wrap kc = kc := by simp [IntKind.wrap_u32]; omega
  rcases hl with rfl | rfl
  all_goals
    have hc5 : (5 : Int) ≤ (cap : Int) := by omega
    have hc1 : ¬ (cap = 1) := by omega
    have B0 := below_alloc (Below.refl w.heap.size w) (.cells #[.int .u8 0, .int .u32 0, .int .u8 0, .int .i64 0] 94)
    have HR := Blk.new w #[.int .u8 0, .int .u32 0, .int .u8 0, .int .i64 0] 94
    go_enter Try.func69, Try.ntmps69
    go_wp2_with fail
    have d0 := (B0.cell (p := ⟨b, off, none⟩) hlt).trans c0
    have d5 := (B0.cell (p := ⟨b, off + 5, none⟩) hlt).trans c5
    have hV := HR.lt'
    generalize hVe : (World.alloc w _) = V at HR B0 d0 d5 hV ⊢
    have bV : b < V.heap.size := by omega
    clear hVe c0 c5
    go_region_held3 (fun w' => w'.cell? ⟨b, off, none⟩ = some (.int .u8 x0) ∧ w'.cell? ⟨b, off + 5, none⟩ = some (.int .u8 x5))
      (first | go_keep | exact ⟨d0, d5⟩)
      (first | (go_at_call 70; (with_reducible refine (hC.reads _ _ (by repeat (first | with_reducible exact B0 | with_reducible refine Below.drew ?_ | with_reducible refine below_alloc ?_ _))).mono ?_); rintro _ _ ⟨rfl, rfl⟩))
    all_goals
      go_wp2_with fail
      have HX := Blk.new V #[.int .u8 x0, .int .u32 kc, .int .u8 x5, .int .i64 0] 94
      have BV := below_alloc B0 (.cells #[.int .u8 x0, .int .u32 kc, .int .u8 x5, .int .i64 0] 94)
      have HR2 := HR.up (below_alloc (Below.refl _ _) (.cells #[.int .u8 x0, .int .u32 kc, .int .u8 x5, .int .i64 0] 94))
      have hPV := hV
      generalize hP : V.heap.size = P at HX hPV ⊢
      generalize (World.alloc V _) = W2 at HX BV HR2 ⊢
      obtain ⟨y, hy⟩ := ext_drew W2
      rw [hy]; clear hy
      have a0 := HX.at 0 rfl
      have a1 := HX.at 1 rfl
      have a2 := HX.at 2 rfl
      have a3 := HX.at 3 rfl
      have fa := HX.free 3
      have r0 := HR2.at 0 rfl
      have r1 := HR2.at 1 rfl
      have r2 := HR2.at 2 rfl
      have r3 := HR2.at 3 rfl
      have f0 := HR2.free 0
      have f1 := HR2.free 1
      have f2 := HR2.free 2
      have f3 := HR2.free 3
      have hn1 : ¬ (w.heap.size = P) := by omega
      have hn2 : ¬ (P = w.heap.size) := by omega
      have hB1 : w.heap.size ≤ w.heap.size := Nat.le_refl _
      have hB2 : w.heap.size ≤ P := Nat.le_of_lt hPV
      clear HX HR2 HR d0 d5 hP B0 hV bV
      go_wp2_with (go_at_call 39; (with_reducible refine (Calls.ext (checkH_is _ _ _ _ hr _)).mono ?_); rintro _ _ ⟨rfl, zz, rfl⟩)
      refine bodyPost_ret (v := .agg #[.int .u8 x0, .int .u32 kc, .int .u8 x5, .int .i64 (rt r)]) (by simp [results, Try.results69, go_sem, r0, r1, r2, r3]) rfl ⟨rfl, ?_⟩
      repeat (first | with_reducible exact ext_below BV _ | with_reducible refine Below.drew ?_ | with_reducible refine Below.setCell ?_ hB1 _ | with_reducible refine Below.setCell ?_ hB2 _)

theorem named_any (b off len cap : Nat) (xs : List Int) (w : World) (h : BytesIn w b off len xs) (hl : len = 6 ∨ len = 13) (hcap : len ≤ cap) (hx : U8s xs) :
    Calls Try.prog 69 #[.slice (some ⟨b, off, none⟩) len cap] w fun e w' => e = .returned (.agg #[.int .u8 (xs.getD 0 0), .int .u32 (catsOf xs), .int .u8 (xs.getD 5 0), .int .i64 (rt (mayH (xs.getD 0 0) (xs.getD 5 0)))]) ∧ Below w.heap.size w w' := by
  obtain ⟨k0, k1⟩ := catsOf_bounds xs hx (by rw [h.size]; omega)
  exact named_lit b off len cap _ _ _ _ w h.lt (h.cell 0 (by omega)) (h.cell 5 (by omega)) k0 k1 (Cats.mk' h (by omega) hx) hl hcap rfl

end Go.Proofs.Ytaloeaihnkkfeaa
