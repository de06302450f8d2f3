import Derived.Test.YtaloeaihnkkfeaaP2
import Derived.Test.YtaloeaihnkkfeaaW13
namespace Go.Proofs.Ytaloeaihnkkfeaa
open Go.RowKit

/-- string(b) of bytes that lie in W, in every world that extends it. -/
theorem conv_in {W : World} {b off len : Nat} {xs : List Int} (h : BytesIn W b off len xs) (cap : Nat) (X : Ext W) :
    (convert 62 9 (.slice (some ⟨b, off, none⟩) len cap)).run Try.prog X.at' = .ok (.string (strOfNums xs)) X.at' :=
  run_convert_bytes_arg X.at' 62 5 Try.underlying62 Try.underlying5 b off len cap xs h.size (h.up X.below).cell 9 Try.underlying9
theorem own_cap {W : World} {B g n cap : Nat} {xs : List Int} (h : OwnsB W B (.slice (some ⟨g, 0, none⟩) n cap) xs) (hn : xs.length = n) : n ≤ cap := by
  unfold OwnsB at h
  rw [hn] at h
  rcases h.2 with ⟨h1, _⟩ | ⟨g', cap', cur, h1, _, _, h2, _⟩
  · cases h1
  · injection h1 with _ _ h4; omega
/-- What was put is got. -/
theorem get_put {V : World} {B g cap : Nat} {l c n k : Int} (ho : OwnsB V B (.slice (some ⟨g, 0, none⟩) 13 cap) (iBytes l c n k)) (hm : mayI l n k = true) (hl : 0 ≤ l ∧ l ≤ 255) (hn : 0 ≤ n ∧ n ≤ 255) (h0 : 0 ≤ c) (h1 : c < 4294967296) (X : Ext V) :
    Calls Try.prog 48 #[.slice (some ⟨g, 0, none⟩) 13 cap] X.at' fun r w' => r = .returned (.tuple #[.agg #[.int .u8 l, .int .u32 c, .int .u8 n, .int .i64 k], .int .i64 0]) ∧ Below X.at'.heap.size X.at' w' := by
  have hk := (mayI_iff l n k).1 hm
  have hG := GetIn.mk' (BytesIn.of_own (own_keep ho X.below) (iBytes_len _ _ _ _)) (own_cap ho (iBytes_len _ _ _ _)) (iBytes_u8 l c n k hl hn)
  rw [(iBytes_at l c n k).1, (iBytes_at l c n k).2.1, iBytes_cats l c n k h0 h1, iBytes_ctr l c n k (by omega) (by omega)] at hG
  exact get_ok _ _ _ _ _ _ _ _ _ hG (own_cap ho (iBytes_len _ _ _ _)) hm
/-- What is got of 13 bytes. -/
structure GotIs (W : World) (b off cap : Nat) (r : Value) (e : Int) : Prop where
  gets : ∀ X : Ext W, Calls Try.prog 48 #[.slice (some ⟨b, off, none⟩) 13 cap] X.at' fun q w' => q = .returned (.tuple #[r, .int .i64 e]) ∧ Below X.at'.heap.size X.at' w'
theorem GotIs.up {W W1 : World} {b off cap : Nat} {r : Value} {e : Int} (h : GotIs W b off cap r e) (hb : Below W.heap.size W W1) : GotIs W1 b off cap r e := ⟨fun X => h.gets ⟨X.at', below_next hb X.below⟩⟩
theorem GotIs.yes {W : World} {b off cap : Nat} {xs : List Int} (h : BytesIn W b off 13 xs) (hcap : 13 ≤ cap) (hx : U8s xs) (hm : mayI (xs.getD 0 0) (xs.getD 5 0) (ctrOf xs) = true) :
    GotIs W b off cap (.agg #[.int .u8 (xs.getD 0 0), .int .u32 (catsOf xs), .int .u8 (xs.getD 5 0), .int .i64 (ctrOf xs)]) 0 := ⟨fun X => get_ok _ _ _ _ _ _ _ _ _ (GetIn.mk' (h.up X.below) hcap hx) hcap hm⟩
theorem GotIs.no {W : World} {b off cap : Nat} {xs : List Int} (h : BytesIn W b off 13 xs) (hcap : 13 ≤ cap) (hx : U8s xs) (hm : mayI (xs.getD 0 0) (xs.getD 5 0) (ctrOf xs) = false) :
    GotIs W b off cap (.agg #[.int .u8 0, .int .u32 0, .int .u8 0, .int .i64 0]) 8 := ⟨fun X => get_no _ _ _ _ _ _ _ _ _ (GetIn.mk' (h.up X.below) hcap hx) hcap hm⟩

set_option maxRecDepth 100000 in
set_option maxHeartbeats 400000 in
theorem back_long (l c n k : Int) (a : Option Addr) (len cap : Nat) (w : World) (h : 1000 < len) : Calls Try.prog 11 #[.agg #[.int .u8 l, .int .u32 c, .int .u8 n, .int .i64 k], .slice a len cap] w fun e w' => e = .returned (.bool true) ∧ Below w.heap.size w w' := by
  have z : decide ((1000 : Int) < (len : Int)) = true := decide_eq_true (by omega)
  go_enter Try.func11, Try.ntmps11
  go_wp2_with fail
  have B := below_alloc (Below.refl w.heap.size w) (.cells #[.int .u8 l, .int .u32 c, .int .u8 n, .int .i64 k] 40)
  generalize (World.alloc w _) = W at B ⊢
  (with_reducible refine (alive5_any _).mono ?_); rintro _ w1 ⟨rfl, b1⟩
  go_wp2_with fail
  go_ret
  exact ⟨rfl, below_next B b1⟩

set_option maxRecDepth 100000 in
set_option maxHeartbeats 2000000 in
theorem back_not_len (l c n k : Int) (a : Option Addr) (len cap : Nat) (w : World) (hp : mayI l n k = false) (hl0 : len ≤ 1000) (hl1 : ((len : Int) == 13) = false) (hl2 : ((len : Int) != 13) = true) : Calls Try.prog 11 #[.agg #[.int .u8 l, .int .u32 c, .int .u8 n, .int .i64 k], .slice a len cap] w fun e w' => e = .returned (.bool true) ∧ Below w.heap.size w w' := by
  have z : decide ((1000 : Int) < (len : Int)) = false := decide_eq_false (by omega)
  have HA := Blk.new w #[.int .u8 l, .int .u32 c, .int .u8 n, .int .i64 k] 40
  have B := below_alloc (Below.refl w.heap.size w) (.cells #[.int .u8 l, .int .u32 c, .int .u8 n, .int .i64 k] 40)
  go_enter Try.func11, Try.ntmps11
  go_wp2_with fail
  generalize (World.alloc w _) = W at B HA  ⊢
  obtain ⟨x, hx'⟩ := ext_at W
  rw [hx']; clear hx'
  (with_reducible refine (Calls.ext (alive5_any _)).mono ?_); rintro _ _ ⟨rfl, y, rfl⟩
  have a0 := HA.at 0 rfl
  have a1 := HA.at 1 rfl
  have a2 := HA.at 2 rfl
  have a3 := HA.at 3 rfl
  go_wp2_with fail
  (with_reducible refine (Calls.ext (put_bad _ _ _ _ _ hp)).mono ?_); rintro _ _ ⟨rfl, y1, rfl⟩
  clear a0 a1 a2 a3
  go_wp2_with fail
  (with_reducible refine (Calls.ext (get_len a len cap _ hl1 hl2)).mono ?_); rintro _ _ ⟨rfl, z2, rfl⟩
  go_upto_region 11 with (fail)
  have U := below_alloc z2.below (.cells #[.int .u8 0, .int .u32 0, .int .u8 0, .int .i64 0] 40)
  have HQ := Blk.new z2.at' #[.int .u8 0, .int .u32 0, .int .u8 0, .int .i64 0] 40
  replace B := below_next B U
  generalize hP : z2.at'.heap.size = P3 at HQ ⊢
  generalize (World.alloc z2.at' _) = W3 at B U HQ  ⊢
  clear hP U
  obtain ⟨x, hx'⟩ := ext_at W3
  rw [hx']; clear hx'
  have q0 := HQ.at 0 rfl
  have q1 := HQ.at 1 rfl
  have q2 := HQ.at 2 rfl
  have q3 := HQ.at 3 rfl
  go_wp2_with fail
  go_ret
  exact ⟨rfl, ext_below B _⟩

set_option maxRecDepth 100000 in
set_option maxHeartbeats 2000000 in
theorem back_not_no (l c n k : Int) (b off cap : Nat) (w : World) (hp : mayI l n k = false) (hG : GotIs w b off cap (.agg #[.int .u8 0, .int .u32 0, .int .u8 0, .int .i64 0]) 8) : Calls Try.prog 11 #[.agg #[.int .u8 l, .int .u32 c, .int .u8 n, .int .i64 k], .slice (some ⟨b, off, none⟩) 13 cap] w fun e w' => e = .returned (.bool true) ∧ Below w.heap.size w w' := by
  have HA := Blk.new w #[.int .u8 l, .int .u32 c, .int .u8 n, .int .i64 k] 40
  have B := below_alloc (Below.refl w.heap.size w) (.cells #[.int .u8 l, .int .u32 c, .int .u8 n, .int .i64 k] 40)
  go_enter Try.func11, Try.ntmps11
  go_wp2_with fail
  replace hG := hG.up B
  generalize (World.alloc w _) = W at B HA hG ⊢
  obtain ⟨x, hx'⟩ := ext_at W
  rw [hx']; clear hx'
  (with_reducible refine (Calls.ext (alive5_any _)).mono ?_); rintro _ _ ⟨rfl, y, rfl⟩
  have a0 := HA.at 0 rfl
  have a1 := HA.at 1 rfl
  have a2 := HA.at 2 rfl
  have a3 := HA.at 3 rfl
  go_wp2_with fail
  (with_reducible refine (Calls.ext (put_bad _ _ _ _ _ hp)).mono ?_); rintro _ _ ⟨rfl, y1, rfl⟩
  clear a0 a1 a2 a3
  go_wp2_with fail
  (with_reducible refine (Calls.ext (hG.gets _)).mono ?_); rintro _ _ ⟨rfl, z2, rfl⟩
  go_upto_region 11 with (fail)
  have U := below_alloc z2.below (.cells #[.int .u8 0, .int .u32 0, .int .u8 0, .int .i64 0] 40)
  have HQ := Blk.new z2.at' #[.int .u8 0, .int .u32 0, .int .u8 0, .int .i64 0] 40
  replace B := below_next B U
  generalize hP : z2.at'.heap.size = P3 at HQ ⊢
  generalize (World.alloc z2.at' _) = W3 at B U HQ  ⊢
  clear hP U
  obtain ⟨x, hx'⟩ := ext_at W3
  rw [hx']; clear hx'
  have q0 := HQ.at 0 rfl
  have q1 := HQ.at 1 rfl
  have q2 := HQ.at 2 rfl
  have q3 := HQ.at 3 rfl
  go_wp2_with fail
  go_ret
  exact ⟨rfl, ext_below B _⟩

set_option maxRecDepth 100000 in
set_option maxHeartbeats 2000000 in
theorem back_not_yes (l c n k : Int) (b off cap : Nat) (x0 kc x5 kt : Int) (xs : List Int) (w : World) (hp : mayI l n k = false) (hG : GotIs w b off cap (.agg #[.int .u8 x0, .int .u32 kc, .int .u8 x5, .int .i64 kt]) 0) (hb : BytesIn w b off 13 xs) (hx : Hid (iBytes x0 kc x5 kt = xs)) (hm : mayI x0 x5 kt = true) (k0 : 0 ≤ kc) (k1 : kc < 4294967296) : Calls Try.prog 11 #[.agg #[.int .u8 l, .int .u32 c, .int .u8 n, .int .i64 k], .slice (some ⟨b, off, none⟩) 13 cap] w fun e w' => e = .returned (.bool true) ∧ Below w.heap.size w w' := by
  have HA := Blk.new w #[.int .u8 l, .int .u32 c, .int .u8 n, .int .i64 k] 40
  have B := below_alloc (Below.refl w.heap.size w) (.cells #[.int .u8 l, .int .u32 c, .int .u8 n, .int .i64 k] 40)
  go_enter Try.func11, Try.ntmps11
  go_wp2_with fail
  replace hG := hG.up B
  replace hb := hb.up B
  generalize (World.alloc w _) = W at B HA hG hb ⊢
  obtain ⟨x, hx'⟩ := ext_at W
  rw [hx']; clear hx'
  (with_reducible refine (Calls.ext (alive5_any _)).mono ?_); rintro _ _ ⟨rfl, y, rfl⟩
  have a0 := HA.at 0 rfl
  have a1 := HA.at 1 rfl
  have a2 := HA.at 2 rfl
  have a3 := HA.at 3 rfl
  go_wp2_with fail
  (with_reducible refine (Calls.ext (put_bad _ _ _ _ _ hp)).mono ?_); rintro _ _ ⟨rfl, y1, rfl⟩
  clear a0 a1 a2 a3
  go_wp2_with fail
  (with_reducible refine (Calls.ext (hG.gets _)).mono ?_); rintro _ _ ⟨rfl, z2, rfl⟩
  go_upto_region 11 with (fail)
  have U := below_alloc z2.below (.cells #[.int .u8 x0, .int .u32 kc, .int .u8 x5, .int .i64 kt] 40)
  have HQ := Blk.new z2.at' #[.int .u8 x0, .int .u32 kc, .int .u8 x5, .int .i64 kt] 40
  replace B := below_next B U
  replace hb := hb.up U
  generalize hP : z2.at'.heap.size = P3 at HQ ⊢
  generalize (World.alloc z2.at' _) = W3 at B U HQ hb ⊢
  clear hP U
  obtain ⟨x, hx'⟩ := ext_at W3
  rw [hx']; clear hx'
  have q0 := HQ.at 0 rfl
  have q1 := HQ.at 1 rfl
  have q2 := HQ.at 2 rfl
  have q3 := HQ.at 3 rfl
  go_wp2_with fail
  (with_reducible refine (put_ok _ _ _ _ _ hm k0 k1).mono ?_); rintro _ V3 ⟨g3, cp3, rfl, ho3, b4⟩
  replace b4 := below_next (Ext.below _) b4
  replace B := below_next B b4
  replace HQ := HQ.up b4
  replace hb := hb.up b4
  clear q0 q1 q2 q3 b4
  have cv3 := conv_own ho3 (iBytes_len _ _ _ _)
  rw [hx.out] at cv3
  have cvb := conv_in hb cap
  generalize strOfNums xs = ST at cv3 cvb
  clear ho3 hb hx
  obtain ⟨x, hx'⟩ := ext_at V3
  rw [hx']; clear hx'
  have q0 := HQ.at 0 rfl
  have q1 := HQ.at 1 rfl
  have q2 := HQ.at 2 rfl
  have q3 := HQ.at 3 rfl
  go_wp2_with ((go_at_call 37; (with_reducible refine (Calls.ext (checkI_ok _ _ _ _ hm _)).mono ?_); rintro _ _ ⟨rfl, _, rfl⟩))
  go_ret
  exact ⟨rfl, ext_below B _⟩

set_option maxRecDepth 100000 in
set_option maxHeartbeats 2000000 in
theorem back_put_len (l c n k : Int) (a : Option Addr) (len cap : Nat) (w : World) (hp : mayI l n k = true) (bl : Hid (0 ≤ l ∧ l ≤ 255)) (bn : Hid (0 ≤ n ∧ n ≤ 255)) (bc0 : 0 ≤ c) (bc1 : c < 4294967296) (hl0 : len ≤ 1000) (hl1 : ((len : Int) == 13) = false) (hl2 : ((len : Int) != 13) = true) : Calls Try.prog 11 #[.agg #[.int .u8 l, .int .u32 c, .int .u8 n, .int .i64 k], .slice a len cap] w fun e w' => e = .returned (.bool true) ∧ Below w.heap.size w w' := by
  have z : decide ((1000 : Int) < (len : Int)) = false := decide_eq_false (by omega)
  have HA := Blk.new w #[.int .u8 l, .int .u32 c, .int .u8 n, .int .i64 k] 40
  have B := below_alloc (Below.refl w.heap.size w) (.cells #[.int .u8 l, .int .u32 c, .int .u8 n, .int .i64 k] 40)
  go_enter Try.func11, Try.ntmps11
  go_wp2_with fail
  generalize (World.alloc w _) = W at B HA  ⊢
  obtain ⟨x, hx'⟩ := ext_at W
  rw [hx']; clear hx'
  (with_reducible refine (Calls.ext (alive5_any _)).mono ?_); rintro _ _ ⟨rfl, y, rfl⟩
  have a0 := HA.at 0 rfl
  have a1 := HA.at 1 rfl
  have a2 := HA.at 2 rfl
  have a3 := HA.at 3 rfl
  go_wp2_with fail
  (with_reducible refine (put_ok _ _ _ _ _ hp bc0 bc1).mono ?_); rintro _ V ⟨g, cp, rfl, ho, b2⟩
  replace b2 := below_next y.below b2
  replace B := below_next B b2
  replace HA := HA.up b2
  clear a0 a1 a2 a3 b2
  obtain ⟨x, hx'⟩ := ext_at V
  rw [hx']; clear hx'
  go_wp2_with fail
  (with_reducible refine (Calls.ext (get_put ho hp bl.out bn.out bc0 bc1 _)).mono ?_); rintro _ _ ⟨rfl, z1, rfl⟩
  go_upto_region 7 with (fail)
  have U := below_alloc z1.below (.cells #[.int .u8 l, .int .u32 c, .int .u8 n, .int .i64 k] 40)
  have HX := Blk.new z1.at' #[.int .u8 l, .int .u32 c, .int .u8 n, .int .i64 k] 40
  replace B := below_next B U
  replace HA := HA.up U
  have ho1 := own_keep ho U
  generalize hP : z1.at'.heap.size = P1 at HX ⊢
  generalize (World.alloc z1.at' _) = W1 at B U HA HX ho1  ⊢
  clear hP U ho
  obtain ⟨x, hx'⟩ := ext_at W1
  rw [hx']; clear hx'
  have hH : mayH l n = true := (mayH_iff l n).2 (by have := (mayI_iff l n k).1 hp; omega)
  have a0 := HA.at 0 rfl
  have a1 := HA.at 1 rfl
  have a2 := HA.at 2 rfl
  have a3 := HA.at 3 rfl
  go_wp2_with fail
  (with_reducible refine (putH_ok _ _ _ _ hH bc0 bc1).mono ?_); rintro _ V2 ⟨gy, cy, rfl, hy, b3⟩
  replace b3 := below_next (Ext.below _) b3
  replace B := below_next B b3
  replace HA := HA.up b3
  replace HX := HX.up b3
  replace ho1 := own_keep ho1 b3
  clear a0 a1 a2 a3 b3
  have hcp := own_cap ho1 (iBytes_len _ _ _ _)
  have hc6 : (6 : Int) ≤ (cp : Int) := by omega
  have cvy := conv_own hy (hBytes_len _ _ _)
  have hs6 := (BytesIn.of_own ho1 (iBytes_len _ _ _ _)).sub 0 6 (by omega)
  rw [List.drop_zero, (iBytes_at l c n k).2.2.2.2] at hs6
  have cvx := conv_in hs6 cp
  have e1 := run_neI l c n k l c n k true (by simp [eqI, eqL])
  generalize strOfNums (hBytes l c n) = ST at cvy cvx
  clear hs6 ho1 hy
  obtain ⟨x, hx'⟩ := ext_at V2
  rw [hx']; clear hx'
  have a0 := HA.at 0 rfl
  have p0 := HX.at 0 rfl
  have a1 := HA.at 1 rfl
  have p1 := HX.at 1 rfl
  have a2 := HA.at 2 rfl
  have p2 := HX.at 2 rfl
  have a3 := HA.at 3 rfl
  have p3 := HX.at 3 rfl
  have hne := ext_ne V2
  go_wp2_with fail
  refine wp_region_extW (by kernel_rfl) (by kernel_rfl) ?_
  repeat (go_big_quiet_step (fail))
  refine wpQuiet_nil ?_
  rintro _ ⟨xx, rfl⟩
  clear a0 a1 a2 a3 p0 p1 p2 p3 cvy cvx e1 HX
  go_wp2_with fail
  (with_reducible refine (Calls.ext (get_len a len cap _ hl1 hl2)).mono ?_); rintro _ _ ⟨rfl, z2, rfl⟩
  go_upto_region 11 with (fail)
  have U := below_alloc z2.below (.cells #[.int .u8 0, .int .u32 0, .int .u8 0, .int .i64 0] 40)
  have HQ := Blk.new z2.at' #[.int .u8 0, .int .u32 0, .int .u8 0, .int .i64 0] 40
  replace B := below_next B U
  generalize hP : z2.at'.heap.size = P3 at HQ ⊢
  generalize (World.alloc z2.at' _) = W3 at B U HQ  ⊢
  clear hP U
  obtain ⟨x, hx'⟩ := ext_at W3
  rw [hx']; clear hx'
  have q0 := HQ.at 0 rfl
  have q1 := HQ.at 1 rfl
  have q2 := HQ.at 2 rfl
  have q3 := HQ.at 3 rfl
  go_wp2_with fail
  go_ret
  exact ⟨rfl, ext_below B _⟩

set_option maxRecDepth 100000 in
set_option maxHeartbeats 2000000 in
theorem back_put_no (l c n k : Int) (b off cap : Nat) (w : World) (hp : mayI l n k = true) (bl : Hid (0 ≤ l ∧ l ≤ 255)) (bn : Hid (0 ≤ n ∧ n ≤ 255)) (bc0 : 0 ≤ c) (bc1 : c < 4294967296) (hG : GotIs w b off cap (.agg #[.int .u8 0, .int .u32 0, .int .u8 0, .int .i64 0]) 8) : Calls Try.prog 11 #[.agg #[.int .u8 l, .int .u32 c, .int .u8 n, .int .i64 k], .slice (some ⟨b, off, none⟩) 13 cap] w fun e w' => e = .returned (.bool true) ∧ Below w.heap.size w w' := by
  have HA := Blk.new w #[.int .u8 l, .int .u32 c, .int .u8 n, .int .i64 k] 40
  have B := below_alloc (Below.refl w.heap.size w) (.cells #[.int .u8 l, .int .u32 c, .int .u8 n, .int .i64 k] 40)
  go_enter Try.func11, Try.ntmps11
  go_wp2_with fail
  replace hG := hG.up B
  generalize (World.alloc w _) = W at B HA hG ⊢
  obtain ⟨x, hx'⟩ := ext_at W
  rw [hx']; clear hx'
  (with_reducible refine (Calls.ext (alive5_any _)).mono ?_); rintro _ _ ⟨rfl, y, rfl⟩
  have a0 := HA.at 0 rfl
  have a1 := HA.at 1 rfl
  have a2 := HA.at 2 rfl
  have a3 := HA.at 3 rfl
  go_wp2_with fail
  (with_reducible refine (put_ok _ _ _ _ _ hp bc0 bc1).mono ?_); rintro _ V ⟨g, cp, rfl, ho, b2⟩
  replace b2 := below_next y.below b2
  replace B := below_next B b2
  replace HA := HA.up b2
  replace hG := hG.up b2
  clear a0 a1 a2 a3 b2
  obtain ⟨x, hx'⟩ := ext_at V
  rw [hx']; clear hx'
  go_wp2_with fail
  (with_reducible refine (Calls.ext (get_put ho hp bl.out bn.out bc0 bc1 _)).mono ?_); rintro _ _ ⟨rfl, z1, rfl⟩
  go_upto_region 7 with (fail)
  have U := below_alloc z1.below (.cells #[.int .u8 l, .int .u32 c, .int .u8 n, .int .i64 k] 40)
  have HX := Blk.new z1.at' #[.int .u8 l, .int .u32 c, .int .u8 n, .int .i64 k] 40
  replace B := below_next B U
  replace HA := HA.up U
  have ho1 := own_keep ho U
  replace hG := hG.up U
  generalize hP : z1.at'.heap.size = P1 at HX ⊢
  generalize (World.alloc z1.at' _) = W1 at B U HA HX ho1 hG ⊢
  clear hP U ho
  obtain ⟨x, hx'⟩ := ext_at W1
  rw [hx']; clear hx'
  have hH : mayH l n = true := (mayH_iff l n).2 (by have := (mayI_iff l n k).1 hp; omega)
  have a0 := HA.at 0 rfl
  have a1 := HA.at 1 rfl
  have a2 := HA.at 2 rfl
  have a3 := HA.at 3 rfl
  go_wp2_with fail
  (with_reducible refine (putH_ok _ _ _ _ hH bc0 bc1).mono ?_); rintro _ V2 ⟨gy, cy, rfl, hy, b3⟩
  replace b3 := below_next (Ext.below _) b3
  replace B := below_next B b3
  replace HA := HA.up b3
  replace HX := HX.up b3
  replace ho1 := own_keep ho1 b3
  replace hG := hG.up b3
  clear a0 a1 a2 a3 b3
  have hcp := own_cap ho1 (iBytes_len _ _ _ _)
  have hc6 : (6 : Int) ≤ (cp : Int) := by omega
  have cvy := conv_own hy (hBytes_len _ _ _)
  have hs6 := (BytesIn.of_own ho1 (iBytes_len _ _ _ _)).sub 0 6 (by omega)
  rw [List.drop_zero, (iBytes_at l c n k).2.2.2.2] at hs6
  have cvx := conv_in hs6 cp
  have e1 := run_neI l c n k l c n k true (by simp [eqI, eqL])
  generalize strOfNums (hBytes l c n) = ST at cvy cvx
  clear hs6 ho1 hy
  obtain ⟨x, hx'⟩ := ext_at V2
  rw [hx']; clear hx'
  have a0 := HA.at 0 rfl
  have p0 := HX.at 0 rfl
  have a1 := HA.at 1 rfl
  have p1 := HX.at 1 rfl
  have a2 := HA.at 2 rfl
  have p2 := HX.at 2 rfl
  have a3 := HA.at 3 rfl
  have p3 := HX.at 3 rfl
  have hne := ext_ne V2
  go_wp2_with fail
  refine wp_region_extW (by kernel_rfl) (by kernel_rfl) ?_
  repeat (go_big_quiet_step (fail))
  refine wpQuiet_nil ?_
  rintro _ ⟨xx, rfl⟩
  clear a0 a1 a2 a3 p0 p1 p2 p3 cvy cvx e1 HX
  go_wp2_with fail
  (with_reducible refine (Calls.ext (hG.gets _)).mono ?_); rintro _ _ ⟨rfl, z2, rfl⟩
  go_upto_region 11 with (fail)
  have U := below_alloc z2.below (.cells #[.int .u8 0, .int .u32 0, .int .u8 0, .int .i64 0] 40)
  have HQ := Blk.new z2.at' #[.int .u8 0, .int .u32 0, .int .u8 0, .int .i64 0] 40
  replace B := below_next B U
  generalize hP : z2.at'.heap.size = P3 at HQ ⊢
  generalize (World.alloc z2.at' _) = W3 at B U HQ  ⊢
  clear hP U
  obtain ⟨x, hx'⟩ := ext_at W3
  rw [hx']; clear hx'
  have q0 := HQ.at 0 rfl
  have q1 := HQ.at 1 rfl
  have q2 := HQ.at 2 rfl
  have q3 := HQ.at 3 rfl
  go_wp2_with fail
  go_ret
  exact ⟨rfl, ext_below B _⟩

set_option maxRecDepth 100000 in
set_option maxHeartbeats 2000000 in
theorem back_put_yes (l c n k : Int) (b off cap : Nat) (x0 kc x5 kt : Int) (xs : List Int) (w : World) (hp : mayI l n k = true) (bl : Hid (0 ≤ l ∧ l ≤ 255)) (bn : Hid (0 ≤ n ∧ n ≤ 255)) (bc0 : 0 ≤ c) (bc1 : c < 4294967296) (hG : GotIs w b off cap (.agg #[.int .u8 x0, .int .u32 kc, .int .u8 x5, .int .i64 kt]) 0) (hb : BytesIn w b off 13 xs) (hx : Hid (iBytes x0 kc x5 kt = xs)) (hm : mayI x0 x5 kt = true) (k0 : 0 ≤ kc) (k1 : kc < 4294967296) : Calls Try.prog 11 #[.agg #[.int .u8 l, .int .u32 c, .int .u8 n, .int .i64 k], .slice (some ⟨b, off, none⟩) 13 cap] w fun e w' => e = .returned (.bool true) ∧ Below w.heap.size w w' := by
  have HA := Blk.new w #[.int .u8 l, .int .u32 c, .int .u8 n, .int .i64 k] 40
  have B := below_alloc (Below.refl w.heap.size w) (.cells #[.int .u8 l, .int .u32 c, .int .u8 n, .int .i64 k] 40)
  go_enter Try.func11, Try.ntmps11
  go_wp2_with fail
  replace hG := hG.up B
  replace hb := hb.up B
  generalize (World.alloc w _) = W at B HA hG hb ⊢
  obtain ⟨x, hx'⟩ := ext_at W
  rw [hx']; clear hx'
  (with_reducible refine (Calls.ext (alive5_any _)).mono ?_); rintro _ _ ⟨rfl, y, rfl⟩
  have a0 := HA.at 0 rfl
  have a1 := HA.at 1 rfl
  have a2 := HA.at 2 rfl
  have a3 := HA.at 3 rfl
  go_wp2_with fail
  (with_reducible refine (put_ok _ _ _ _ _ hp bc0 bc1).mono ?_); rintro _ V ⟨g, cp, rfl, ho, b2⟩
  replace b2 := below_next y.below b2
  replace B := below_next B b2
  replace HA := HA.up b2
  replace hG := hG.up b2
  replace hb := hb.up b2
  clear a0 a1 a2 a3 b2
  obtain ⟨x, hx'⟩ := ext_at V
  rw [hx']; clear hx'
  go_wp2_with fail
  (with_reducible refine (Calls.ext (get_put ho hp bl.out bn.out bc0 bc1 _)).mono ?_); rintro _ _ ⟨rfl, z1, rfl⟩
  go_upto_region 7 with (fail)
  have U := below_alloc z1.below (.cells #[.int .u8 l, .int .u32 c, .int .u8 n, .int .i64 k] 40)
  have HX := Blk.new z1.at' #[.int .u8 l, .int .u32 c, .int .u8 n, .int .i64 k] 40
  replace B := below_next B U
  replace HA := HA.up U
  have ho1 := own_keep ho U
  replace hG := hG.up U
  replace hb := hb.up U
  generalize hP : z1.at'.heap.size = P1 at HX ⊢
  generalize (World.alloc z1.at' _) = W1 at B U HA HX ho1 hG hb ⊢
  clear hP U ho
  obtain ⟨x, hx'⟩ := ext_at W1
  rw [hx']; clear hx'
  have hH : mayH l n = true := (mayH_iff l n).2 (by have := (mayI_iff l n k).1 hp; omega)
  have a0 := HA.at 0 rfl
  have a1 := HA.at 1 rfl
  have a2 := HA.at 2 rfl
  have a3 := HA.at 3 rfl
  go_wp2_with fail
  (with_reducible refine (putH_ok _ _ _ _ hH bc0 bc1).mono ?_); rintro _ V2 ⟨gy, cy, rfl, hy, b3⟩
  replace b3 := below_next (Ext.below _) b3
  replace B := below_next B b3
  replace HA := HA.up b3
  replace HX := HX.up b3
  replace ho1 := own_keep ho1 b3
  replace hG := hG.up b3
  replace hb := hb.up b3
  clear a0 a1 a2 a3 b3
  have hcp := own_cap ho1 (iBytes_len _ _ _ _)
  have hc6 : (6 : Int) ≤ (cp : Int) := by omega
  have cvy := conv_own hy (hBytes_len _ _ _)
  have hs6 := (BytesIn.of_own ho1 (iBytes_len _ _ _ _)).sub 0 6 (by omega)
  rw [List.drop_zero, (iBytes_at l c n k).2.2.2.2] at hs6
  have cvx := conv_in hs6 cp
  have e1 := run_neI l c n k l c n k true (by simp [eqI, eqL])
  generalize strOfNums (hBytes l c n) = ST at cvy cvx
  clear hs6 ho1 hy
  obtain ⟨x, hx'⟩ := ext_at V2
  rw [hx']; clear hx'
  have a0 := HA.at 0 rfl
  have p0 := HX.at 0 rfl
  have a1 := HA.at 1 rfl
  have p1 := HX.at 1 rfl
  have a2 := HA.at 2 rfl
  have p2 := HX.at 2 rfl
  have a3 := HA.at 3 rfl
  have p3 := HX.at 3 rfl
  have hne := ext_ne V2
  go_wp2_with fail
  refine wp_region_extW (by kernel_rfl) (by kernel_rfl) ?_
  repeat (go_big_quiet_step (fail))
  refine wpQuiet_nil ?_
  rintro _ ⟨xx, rfl⟩
  clear a0 a1 a2 a3 p0 p1 p2 p3 cvy cvx e1 HX
  go_wp2_with fail
  (with_reducible refine (Calls.ext (hG.gets _)).mono ?_); rintro _ _ ⟨rfl, z2, rfl⟩
  go_upto_region 11 with (fail)
  have U := below_alloc z2.below (.cells #[.int .u8 x0, .int .u32 kc, .int .u8 x5, .int .i64 kt] 40)
  have HQ := Blk.new z2.at' #[.int .u8 x0, .int .u32 kc, .int .u8 x5, .int .i64 kt] 40
  replace B := below_next B U
  replace hb := hb.up U
  generalize hP : z2.at'.heap.size = P3 at HQ ⊢
  generalize (World.alloc z2.at' _) = W3 at B U HQ hb ⊢
  clear hP U
  obtain ⟨x, hx'⟩ := ext_at W3
  rw [hx']; clear hx'
  have q0 := HQ.at 0 rfl
  have q1 := HQ.at 1 rfl
  have q2 := HQ.at 2 rfl
  have q3 := HQ.at 3 rfl
  go_wp2_with fail
  (with_reducible refine (put_ok _ _ _ _ _ hm k0 k1).mono ?_); rintro _ V3 ⟨g3, cp3, rfl, ho3, b4⟩
  replace b4 := below_next (Ext.below _) b4
  replace B := below_next B b4
  replace HQ := HQ.up b4
  replace hb := hb.up b4
  clear q0 q1 q2 q3 b4
  have cv3 := conv_own ho3 (iBytes_len _ _ _ _)
  rw [hx.out] at cv3
  have cvb := conv_in hb cap
  generalize strOfNums xs = ST at cv3 cvb
  clear ho3 hb hx
  obtain ⟨x, hx'⟩ := ext_at V3
  rw [hx']; clear hx'
  have q0 := HQ.at 0 rfl
  have q1 := HQ.at 1 rfl
  have q2 := HQ.at 2 rfl
  have q3 := HQ.at 3 rfl
  go_wp2_with ((go_at_call 37; (with_reducible refine (Calls.ext (checkI_ok _ _ _ _ hm _)).mono ?_); rintro _ _ ⟨rfl, _, rfl⟩))
  go_ret
  exact ⟨rfl, ext_below B _⟩

end Go.Proofs.Ytaloeaihnkkfeaa
