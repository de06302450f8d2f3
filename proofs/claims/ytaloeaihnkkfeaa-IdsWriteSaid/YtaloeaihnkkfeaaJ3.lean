import Derived.Test.YtaloeaihnkkfeaaJ2
namespace Go.Proofs.Ytaloeaihnkkfeaa
open Go.RowKit

theorem field94 (a b c d : Value) (w : World) : (Instr.field 94 (.agg #[a, b, c, d]) 0).run Try.prog w = .ok (.agg #[a, b, c]) w := by kernel_rfl
theorem bcell {W w1 : World} (hb : Below W.heap.size W w1) : (∀ b o, b < W.heap.size → w1.cell? ⟨b, o, none⟩ = W.cell? ⟨b, o, none⟩) ∧ (∀ b o, b < W.heap.size → w1.frozen? ⟨b, o, none⟩ = W.frozen? ⟨b, o, none⟩) :=
  ⟨fun b o h => hb.cell (p := ⟨b, o, none⟩) h, fun b o h => hb.frozen (p := ⟨b, o, none⟩) h⟩
def ctrOf (xs : List Int) : Int := numL ((xs.drop 6).take 7)
/-- The two calls of Get at 13 bytes, in every later world. -/
structure GetIn (W : World) (b off cap : Nat) (x0 kc x5 e kt : Int) : Prop where
  named : ∀ (w' : World), Below W.heap.size W w' → Calls Try.prog 69 #[.slice (some ⟨b, off, none⟩) 13 cap] w' fun r w'' => r = .returned (.agg #[.int .u8 x0, .int .u32 kc, .int .u8 x5, .int .i64 e]) ∧ Below w'.heap.size w' w''
  reads : ∀ (cap' : Nat) (w' : World), Below W.heap.size W w' → Calls Try.prog 70 #[.slice (some ⟨b, off + 6, none⟩) 7 cap'] w' fun r w'' => r = .returned (.int .i64 kt) ∧ w' = w''
theorem GetIn.mk' {w : World} {b off cap : Nat} {xs : List Int} (h : BytesIn w b off 13 xs) (hcap : 13 ≤ cap) (hx : U8s xs) : GetIn w b off cap (xs.getD 0 0) (catsOf xs) (xs.getD 5 0) (rt (mayH (xs.getD 0 0) (xs.getD 5 0))) (ctrOf xs) :=
  ⟨fun w' hb => named_any b off 13 cap xs w' (h.up hb) (.inr rfl) hcap hx, fun cap' w' hb => read_sub b off 13 cap' 6 7 xs w' (h.up hb) (by omega) (by omega) hx⟩

theorem Blk.of {W : World} {p : Nat} {cs : Array Value} {t : TypeId} (h : W.heap[p]? = some (.cells cs t)) : Blk W p cs t :=
  ⟨fun X => by
    have hp : p < W.heap.size := by
      rcases Nat.lt_or_ge p W.heap.size with hlt | hge
      · exact hlt
      · rw [Array.getElem?_eq_none hge] at h; cases h
    rw [X.below.block _ hp]; exact h⟩
theorem Blk.heap {W : World} {p : Nat} {cs : Array Value} {t : TypeId} (h : Blk W p cs t) : W.heap[p]? = some (.cells cs t) := h.all ⟨W, Below.refl _ _⟩
/-- What Get's statement that reads leaves: where the id lies, and that the result's block is as it was. -/
structure GetEnd (w W2 : World) (g : Nat) (x0 kc x5 kt : Int) : Prop where
  x : Blk W2 g #[.int .u8 x0, .int .u32 kc, .int .u8 x5, .int .i64 kt] 40
  r : Blk W2 w.heap.size #[.int .u8 0, .int .u32 0, .int .u8 0, .int .i64 0] 40
  below : Below w.heap.size w W2
theorem GetEnd.one {w V wn : World} {x0 kc x5 kt : Int} (hb : Below w.heap.size w V) (HR : Blk V w.heap.size #[.int .u8 0, .int .u32 0, .int .u8 0, .int .i64 0] 40) (hn : Below V.heap.size V wn) :
    GetEnd w (wn.alloc (.cells #[.int .u8 x0, .int .u32 kc, .int .u8 x5, .int .i64 kt] 40)) wn.heap.size x0 kc x5 kt :=
  ⟨Blk.new wn _ 40, (HR.up hn).alloc _, below_alloc (below_next hb hn) _⟩
theorem GetEnd.two {w V wn : World} {x0 kc x5 kt : Int} (hb : Below w.heap.size w V) (HR : Blk V w.heap.size #[.int .u8 0, .int .u32 0, .int .u8 0, .int .i64 0] 40) (hn : Below V.heap.size V wn)
    (hg : wn.heap[V.heap.size]? = some (.cells #[.int .u8 0, .int .u32 0, .int .u8 0, .int .i64 0] 40)) :
    GetEnd w ((((wn.setCell ⟨V.heap.size, 0, none⟩ (.int .u8 x0)).setCell ⟨V.heap.size, 1, none⟩ (.int .u32 kc)).setCell ⟨V.heap.size, 2, none⟩ (.int .u8 x5)).setCell ⟨V.heap.size, 3, none⟩ (.int .i64 kt)) V.heap.size x0 kc x5 kt := by
  have hV := HR.lt'
  refine ⟨Blk.of ?_, Blk.of ?_, ?_⟩
  · simp only [World.setCell, Array.getElem?_modify]; rw [if_pos trivial, if_pos trivial, if_pos trivial, if_pos trivial, hg]; rfl
  · rw [Below.heap_setCell _ _ _ _ (by simp; omega), Below.heap_setCell _ _ _ _ (by simp; omega), Below.heap_setCell _ _ _ _ (by simp; omega), Below.heap_setCell _ _ _ _ (by simp; omega)]
    exact (HR.up hn).heap
  · exact ((((below_next hb hn).setCell (by simp; omega) _).setCell (by simp; omega) _).setCell (by simp; omega) _).setCell (by simp; omega) _

set_option maxRecDepth 100000 in
set_option maxHeartbeats 1600000 in
theorem get_ok (b off cap : Nat) (x0 kc x5 e kt : Int) (w : World) (hG : GetIn w b off cap x0 kc x5 e kt) (hcap : 13 ≤ cap) (h : mayI x0 x5 kt = true) :
    Calls Try.prog 48 #[.slice (some ⟨b, off, none⟩) 13 cap] w fun r w' => r = .returned (.tuple #[.agg #[.int .u8 x0, .int .u32 kc, .int .u8 x5, .int .i64 kt], .int .i64 0]) ∧ Below w.heap.size w w' := by
  have hfld := field94
  have hc6 : (6 : Int) ≤ (cap : Int) := by omega
  have hc1 : ¬ (cap = 6) := by omega
  have B0 := below_alloc (Below.refl w.heap.size w) (.cells #[.int .u8 0, .int .u32 0, .int .u8 0, .int .i64 0] 40)
  have HR := Blk.new w #[.int .u8 0, .int .u32 0, .int .u8 0, .int .i64 0] 40
  go_enter Try.func48, Try.ntmps48
  go_wp2_with fail
  have hV := HR.lt'
  generalize hVe : (World.alloc w _) = V at HR B0 hV ⊢
  clear hVe
  go_region_held3 (fun _ => True)
    (exact trivial)
    (first | (go_at_call 70; (with_reducible refine (hG.reads _ _ (below_next B0 (by repeat (first | with_reducible exact Below.refl _ _ | with_reducible exact BN | with_reducible refine Below.drew ?_ | with_reducible refine below_alloc ?_ _)))).mono ?_); rintro _ _ ⟨rfl, rfl⟩) | (go_at_call 69; (with_reducible refine (hG.named _ (below_next B0 (by repeat (first | with_reducible exact Below.refl _ _ | with_reducible exact BN | with_reducible refine Below.drew ?_ | with_reducible refine below_alloc ?_ _)))).mono ?_); rintro _ wn ⟨rfl, hbn⟩; have BN : Below V.heap.size V wn := below_next (by repeat (first | with_reducible exact Below.refl _ _ | with_reducible refine Below.drew ?_ | with_reducible refine below_alloc ?_ _)) hbn; obtain ⟨hqc, hqf⟩ := bcell hbn))
  all_goals
    have hB1 : w.heap.size ≤ w.heap.size := Nat.le_refl _
    first | have GE := GetEnd.one (x0 := x0) (kc := kc) (x5 := x5) (kt := kt) B0 HR BN; clear B0 HR BN hbn hqc hqf; generalize hP : wn.heap.size = P at GE ⊢; generalize (World.alloc wn _) = W2 at GE ⊢; clear hP; obtain ⟨y, hy⟩ := ext_at W2; rw [hy]; clear hy | have GE := GetEnd.two (x0 := x0) (kc := kc) (x5 := x5) (kt := kt) B0 HR BN ((hbn.block _ (by simp)).trans (blkNew _ _ _ rfl)); clear B0 HR BN hbn hqc hqf; generalize hP : V.heap.size = P at GE ⊢; generalize (World.setCell _ _ _) = W2 at GE ⊢; clear hP; obtain ⟨y, hy⟩ := ext_at W2; rw [hy]; clear hy
    obtain ⟨HX, HR2, BV⟩ := GE
    have a0 := HX.at 0 rfl
    have a1 := HX.at 1 rfl
    have a2 := HX.at 2 rfl
    have a3 := HX.at 3 rfl
    have r0 := HR2.at 0 rfl
    have r1 := HR2.at 1 rfl
    have r2 := HR2.at 2 rfl
    have r3 := HR2.at 3 rfl
    have f0 := HR2.free 0
    have f1 := HR2.free 1
    have f2 := HR2.free 2
    have f3 := HR2.free 3
    clear HX HR2 hfld
    go_wp2_with (go_at_call 37; (with_reducible refine (Calls.ext (checkI_ok _ _ _ _ h _)).mono ?_); rintro _ _ ⟨rfl, zz, rfl⟩)
    refine bodyPost_ret (v := .tuple #[.agg #[.int .u8 x0, .int .u32 kc, .int .u8 x5, .int .i64 kt], .int .i64 0]) (by simp [results, Try.results48, go_sem, r0, r1, r2, r3]) rfl ⟨rfl, ?_⟩
    repeat (first | with_reducible exact ext_below BV _ | with_reducible refine Below.drew ?_ | with_reducible refine Below.setCell ?_ hB1 _)

set_option maxRecDepth 100000 in
set_option maxHeartbeats 1600000 in
theorem get_no (b off cap : Nat) (x0 kc x5 e kt : Int) (w : World) (hG : GetIn w b off cap x0 kc x5 e kt) (hcap : 13 ≤ cap) (h : mayI x0 x5 kt = false) :
    Calls Try.prog 48 #[.slice (some ⟨b, off, none⟩) 13 cap] w fun r w' => r = .returned (.tuple #[.agg #[.int .u8 0, .int .u32 0, .int .u8 0, .int .i64 0], .int .i64 8]) ∧ Below w.heap.size w w' := by
  have hfld := field94
  have hc6 : (6 : Int) ≤ (cap : Int) := by omega
  have hc1 : ¬ (cap = 6) := by omega
  have B0 := below_alloc (Below.refl w.heap.size w) (.cells #[.int .u8 0, .int .u32 0, .int .u8 0, .int .i64 0] 40)
  have HR := Blk.new w #[.int .u8 0, .int .u32 0, .int .u8 0, .int .i64 0] 40
  go_enter Try.func48, Try.ntmps48
  go_wp2_with fail
  have hV := HR.lt'
  generalize hVe : (World.alloc w _) = V at HR B0 hV ⊢
  clear hVe
  go_region_held3 (fun _ => True)
    (exact trivial)
    (first | (go_at_call 70; (with_reducible refine (hG.reads _ _ (below_next B0 (by repeat (first | with_reducible exact Below.refl _ _ | with_reducible exact BN | with_reducible refine Below.drew ?_ | with_reducible refine below_alloc ?_ _)))).mono ?_); rintro _ _ ⟨rfl, rfl⟩) | (go_at_call 69; (with_reducible refine (hG.named _ (below_next B0 (by repeat (first | with_reducible exact Below.refl _ _ | with_reducible exact BN | with_reducible refine Below.drew ?_ | with_reducible refine below_alloc ?_ _)))).mono ?_); rintro _ wn ⟨rfl, hbn⟩; have BN : Below V.heap.size V wn := below_next (by repeat (first | with_reducible exact Below.refl _ _ | with_reducible refine Below.drew ?_ | with_reducible refine below_alloc ?_ _)) hbn; obtain ⟨hqc, hqf⟩ := bcell hbn))
  all_goals
    have hB1 : w.heap.size ≤ w.heap.size := Nat.le_refl _
    first | have GE := GetEnd.one (x0 := x0) (kc := kc) (x5 := x5) (kt := kt) B0 HR BN; clear B0 HR BN hbn hqc hqf; generalize hP : wn.heap.size = P at GE ⊢; generalize (World.alloc wn _) = W2 at GE ⊢; clear hP; obtain ⟨y, hy⟩ := ext_at W2; rw [hy]; clear hy | have GE := GetEnd.two (x0 := x0) (kc := kc) (x5 := x5) (kt := kt) B0 HR BN ((hbn.block _ (by simp)).trans (blkNew _ _ _ rfl)); clear B0 HR BN hbn hqc hqf; generalize hP : V.heap.size = P at GE ⊢; generalize (World.setCell _ _ _) = W2 at GE ⊢; clear hP; obtain ⟨y, hy⟩ := ext_at W2; rw [hy]; clear hy
    obtain ⟨HX, HR2, BV⟩ := GE
    have a0 := HX.at 0 rfl
    have a1 := HX.at 1 rfl
    have a2 := HX.at 2 rfl
    have a3 := HX.at 3 rfl
    have r0 := HR2.at 0 rfl
    have r1 := HR2.at 1 rfl
    have r2 := HR2.at 2 rfl
    have r3 := HR2.at 3 rfl
    have f0 := HR2.free 0
    have f1 := HR2.free 1
    have f2 := HR2.free 2
    have f3 := HR2.free 3
    clear HX HR2 hfld
    go_wp2_with (go_at_call 37; (with_reducible refine (Calls.ext (checkI_no _ _ _ _ h _)).mono ?_); rintro _ _ ⟨rfl, zz, rfl⟩)
    refine bodyPost_ret (v := .tuple #[.agg #[.int .u8 0, .int .u32 0, .int .u8 0, .int .i64 0], .int .i64 8]) (by simp [results, Try.results48, go_sem, r0, r1, r2, r3]) rfl ⟨rfl, ?_⟩
    repeat (first | with_reducible exact ext_below BV _ | with_reducible refine Below.drew ?_ | with_reducible refine Below.setCell ?_ hB1 _)

end Go.Proofs.Ytaloeaihnkkfeaa
