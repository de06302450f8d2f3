import Derived.Test.YtaloeaihnkkfeaaK5
namespace Go.Proofs.Ytaloeaihnkkfeaa
open Go.RowKit

theorem run_eqH_self (a b c : Int) (w : World) : (binOp .eql 38 (.agg #[.int .u8 a, .int .u32 b, .int .u8 c]) (.agg #[.int .u8 a, .int .u32 b, .int .u8 c])).run Try.prog w = .ok (.bool true) w := by simp [go_sem]
/-- string(v), in every world that extends W. -/
structure Conv (W : World) (v : Value) (s : ByteArray) : Prop where
  run : ∀ X : Ext W, (convert 62 9 v).run Try.prog X.at' = .ok (.string s) X.at'
theorem Conv.up {W W1 : World} {v : Value} {s : ByteArray} (h : Conv W v s) (hb : Below W.heap.size W W1) : Conv W1 v s := ⟨fun X => h.run ⟨X.at', below_next hb X.below⟩⟩
theorem Conv.nil (W : World) : Conv W (.slice none 0 0) ByteArray.empty := ⟨fun X => run_convert_bytes_nil X.at' 62 5 Try.underlying62 Try.underlying5 0 0 9 Try.underlying9⟩
/-- What is answered of some bytes, in every world that extends W. -/
structure GotG (W : World) (f : Nat) (v r : Value) (e : Int) : Prop where
  gets : ∀ X : Ext W, Calls Try.prog f #[v] X.at' fun q w' => q = .returned (.tuple #[r, .int .i64 e]) ∧ Below X.at'.heap.size X.at' w'
theorem GotG.up {W W1 : World} {f : Nat} {v r : Value} {e : Int} (h : GotG W f v r e) (hb : Below W.heap.size W W1) : GotG W1 f v r e := ⟨fun X => h.gets ⟨X.at', below_next hb X.below⟩⟩
/-- What is put, and its string. -/
abbrev PutIs (f : Nat) (x : Value) (s : ByteArray) (e0 : Int) : Prop := ∀ w : World, Calls Try.prog f #[x] w fun e w' => ∃ v, e = .returned (.tuple #[v, .int .i64 e0]) ∧ Conv w' v s ∧ Below w.heap.size w w'

set_option maxRecDepth 100000 in
set_option maxHeartbeats 400000 in
theorem write_long (l c n k : Int) (a : Option Addr) (len cap : Nat) (w : World) (h : 1000 < len) : Calls Try.prog 10 #[.agg #[.int .u8 l, .int .u32 c, .int .u8 n, .int .i64 k], .slice a len cap] w fun e w' => e = .returned (.bool true) ∧ Below w.heap.size w w' := by
  have z : decide ((1000 : Int) < (len : Int)) = true := decide_eq_true (by omega)
  go_enter Try.func10, Try.ntmps10
  go_wp2_with fail
  go_ret
  exact ⟨rfl, below_alloc (Below.refl _ _) _⟩

set_option maxRecDepth 100000 in
set_option maxHeartbeats 4000000 in
theorem write_walk (l c n k : Int) (a : Option Addr) (len cap : Nat) (s0 s1 s2 : ByteArray) (e1 e2 g0 g1 g2 g3 eg r0 r1 r2 eh : Int) (w : World) (hl : len ≤ 1000)
    (cvb : Conv w (.slice a len cap) s0) (p1 : Hid (PutIs 44 (.agg #[.int .u8 l, .int .u32 c, .int .u8 n, .int .i64 k]) s1 e1)) (p2 : Hid (PutIs 45 (.agg #[.int .u8 l, .int .u32 c, .int .u8 n, .int .i64 k]) s1 e1)) (p3 : Hid (PutIs 46 (.agg #[.int .u8 l, .int .u32 c, .int .u8 n]) s2 e2)) (p4 : Hid (PutIs 47 (.agg #[.int .u8 l, .int .u32 c, .int .u8 n]) s2 e2))
    (q1 : GotG w 48 (.slice a len cap) (.agg #[.int .u8 g0, .int .u32 g1, .int .u8 g2, .int .i64 g3]) eg) (q2 : GotG w 49 (.slice a len cap) (.agg #[.int .u8 g0, .int .u32 g1, .int .u8 g2, .int .i64 g3]) eg) (q3 : GotG w 50 (.slice a len cap) (.agg #[.int .u8 r0, .int .u32 r1, .int .u8 r2]) eh) (q4 : GotG w 51 (.slice a len cap) (.agg #[.int .u8 r0, .int .u32 r1, .int .u8 r2]) eh) :
    Calls Try.prog 10 #[.agg #[.int .u8 l, .int .u32 c, .int .u8 n, .int .i64 k], .slice a len cap] w fun e w' => e = .returned (.bool true) ∧ Below w.heap.size w w' := by
  have z : decide ((1000 : Int) < (len : Int)) = false := decide_eq_false (by omega)
  have HA := Blk.new w #[.int .u8 l, .int .u32 c, .int .u8 n, .int .i64 k] 40
  have B := below_alloc (Below.refl w.heap.size w) (.cells #[.int .u8 l, .int .u32 c, .int .u8 n, .int .i64 k] 40)
  go_enter Try.func10, Try.ntmps10
  go_upto_region 1 with (fail)
  replace cvb := cvb.up B
  replace q1 := q1.up B
  replace q2 := q2.up B
  replace q3 := q3.up B
  replace q4 := q4.up B
  generalize (World.alloc w _) = W at B HA cvb q1 q2 q3 q4 ⊢
  obtain ⟨x, hx'⟩ := ext_at W
  rw [hx']; clear hx'
  have a0 := HA.at 0 rfl
  have a1 := HA.at 1 rfl
  have a2 := HA.at 2 rfl
  have a3 := HA.at 3 rfl
  have kb := cvb.run
  go_wp2_with fail
  (with_reducible refine (p1.out _).mono ?_); rintro _ V0 ⟨v0, rfl, cv0, b0⟩
  replace b0 := below_next (Ext.below _) b0
  replace B := below_next B b0
  replace HA := HA.up b0
  replace cvb := cvb.up b0
  replace q1 := q1.up b0
  replace q2 := q2.up b0
  replace q3 := q3.up b0
  replace q4 := q4.up b0
  clear a0 a1 a2 a3 b0
  clear kb
  obtain ⟨x, hx'⟩ := ext_at V0
  rw [hx']; clear hx'
  have a0 := HA.at 0 rfl
  have a1 := HA.at 1 rfl
  have a2 := HA.at 2 rfl
  have a3 := HA.at 3 rfl
  go_wp2_with fail
  (with_reducible refine (p2.out _).mono ?_); rintro _ V1 ⟨v1, rfl, cv1, b1⟩
  replace b1 := below_next (Ext.below _) b1
  replace B := below_next B b1
  replace HA := HA.up b1
  replace cvb := cvb.up b1
  replace q1 := q1.up b1
  replace q2 := q2.up b1
  replace q3 := q3.up b1
  replace q4 := q4.up b1
  replace cv0 := cv0.up b1
  clear a0 a1 a2 a3 b1
  obtain ⟨x, hx'⟩ := ext_at V1
  rw [hx']; clear hx'
  have a0 := HA.at 0 rfl
  have a1 := HA.at 1 rfl
  have a2 := HA.at 2 rfl
  have a3 := HA.at 3 rfl
  go_wp2_with fail
  (with_reducible refine (p3.out _).mono ?_); rintro _ V2 ⟨v2, rfl, cv2, b2⟩
  replace b2 := below_next (Ext.below _) b2
  replace B := below_next B b2
  replace HA := HA.up b2
  replace cvb := cvb.up b2
  replace q1 := q1.up b2
  replace q2 := q2.up b2
  replace q3 := q3.up b2
  replace q4 := q4.up b2
  replace cv0 := cv0.up b2
  replace cv1 := cv1.up b2
  clear a0 a1 a2 a3 b2
  obtain ⟨x, hx'⟩ := ext_at V2
  rw [hx']; clear hx'
  have a0 := HA.at 0 rfl
  have a1 := HA.at 1 rfl
  have a2 := HA.at 2 rfl
  have a3 := HA.at 3 rfl
  go_wp2_with fail
  (with_reducible refine (p4.out _).mono ?_); rintro _ V3 ⟨v3, rfl, cv3, b3⟩
  replace b3 := below_next (Ext.below _) b3
  replace B := below_next B b3
  replace HA := HA.up b3
  replace cvb := cvb.up b3
  replace q1 := q1.up b3
  replace q2 := q2.up b3
  replace q3 := q3.up b3
  replace q4 := q4.up b3
  replace cv0 := cv0.up b3
  replace cv1 := cv1.up b3
  replace cv2 := cv2.up b3
  clear a0 a1 a2 a3 b3
  obtain ⟨x, hx'⟩ := ext_at V3
  rw [hx']; clear hx'
  have a0 := HA.at 0 rfl
  have a1 := HA.at 1 rfl
  have a2 := HA.at 2 rfl
  have a3 := HA.at 3 rfl
  go_wp2_with fail
  (with_reducible refine (Calls.ext (q1.gets _)).mono ?_); rintro _ _ ⟨rfl, z5, rfl⟩
  go_upto_region 9 with (fail)
  clear a0 a1 a2 a3
  have U := below_alloc z5.below (.cells #[.int .u8 g0, .int .u32 g1, .int .u8 g2, .int .i64 g3] 40)
  have HG1 := Blk.new z5.at' #[.int .u8 g0, .int .u32 g1, .int .u8 g2, .int .i64 g3] 40
  replace B := below_next B U
  replace HA := HA.up U
  replace cvb := cvb.up U
  replace q1 := q1.up U
  replace q2 := q2.up U
  replace q3 := q3.up U
  replace q4 := q4.up U
  replace cv0 := cv0.up U
  replace cv1 := cv1.up U
  replace cv2 := cv2.up U
  replace cv3 := cv3.up U
  generalize hP : z5.at'.heap.size = P5 at HG1 ⊢
  generalize (World.alloc z5.at' _) = W5 at B U HA cvb q1 q2 q3 q4 cv0 cv1 cv2 cv3 HG1 ⊢
  clear hP U
  obtain ⟨x, hx'⟩ := ext_at W5
  rw [hx']; clear hx'
  clear HA
  go_wp2_with fail
  (with_reducible refine (Calls.ext (q2.gets _)).mono ?_); rintro _ _ ⟨rfl, z6, rfl⟩
  go_upto_region 10 with (fail)
  have U := below_alloc z6.below (.cells #[.int .u8 g0, .int .u32 g1, .int .u8 g2, .int .i64 g3] 40)
  have HG2 := Blk.new z6.at' #[.int .u8 g0, .int .u32 g1, .int .u8 g2, .int .i64 g3] 40
  replace B := below_next B U
  replace cvb := cvb.up U
  replace q1 := q1.up U
  replace q2 := q2.up U
  replace q3 := q3.up U
  replace q4 := q4.up U
  replace cv0 := cv0.up U
  replace cv1 := cv1.up U
  replace cv2 := cv2.up U
  replace cv3 := cv3.up U
  replace HG1 := HG1.up U
  generalize hP : z6.at'.heap.size = P6 at HG2 ⊢
  generalize (World.alloc z6.at' _) = W6 at B U cvb q1 q2 q3 q4 cv0 cv1 cv2 cv3 HG1 HG2 ⊢
  clear hP U
  obtain ⟨x, hx'⟩ := ext_at W6
  rw [hx']; clear hx'
  go_wp2_with fail
  (with_reducible refine (Calls.ext (q3.gets _)).mono ?_); rintro _ _ ⟨rfl, z7, rfl⟩
  go_upto_region 11 with (fail)
  have U := below_alloc z7.below (.cells #[.int .u8 r0, .int .u32 r1, .int .u8 r2] 38)
  have HH1 := Blk.new z7.at' #[.int .u8 r0, .int .u32 r1, .int .u8 r2] 38
  replace B := below_next B U
  replace cvb := cvb.up U
  replace q1 := q1.up U
  replace q2 := q2.up U
  replace q3 := q3.up U
  replace q4 := q4.up U
  replace cv0 := cv0.up U
  replace cv1 := cv1.up U
  replace cv2 := cv2.up U
  replace cv3 := cv3.up U
  replace HG1 := HG1.up U
  replace HG2 := HG2.up U
  generalize hP : z7.at'.heap.size = P7 at HH1 ⊢
  generalize (World.alloc z7.at' _) = W7 at B U cvb q1 q2 q3 q4 cv0 cv1 cv2 cv3 HG1 HG2 HH1 ⊢
  clear hP U
  obtain ⟨x, hx'⟩ := ext_at W7
  rw [hx']; clear hx'
  go_wp2_with fail
  (with_reducible refine (Calls.ext (q4.gets _)).mono ?_); rintro _ _ ⟨rfl, z8, rfl⟩
  go_upto_region 12 with (fail)
  have U := below_alloc z8.below (.cells #[.int .u8 r0, .int .u32 r1, .int .u8 r2] 38)
  have HH2 := Blk.new z8.at' #[.int .u8 r0, .int .u32 r1, .int .u8 r2] 38
  replace B := below_next B U
  replace cvb := cvb.up U
  replace q1 := q1.up U
  replace q2 := q2.up U
  replace q3 := q3.up U
  replace q4 := q4.up U
  replace cv0 := cv0.up U
  replace cv1 := cv1.up U
  replace cv2 := cv2.up U
  replace cv3 := cv3.up U
  replace HG1 := HG1.up U
  replace HG2 := HG2.up U
  replace HH1 := HH1.up U
  generalize hP : z8.at'.heap.size = P8 at HH2 ⊢
  generalize (World.alloc z8.at' _) = W8 at B U cvb q1 q2 q3 q4 cv0 cv1 cv2 cv3 HG1 HG2 HH1 HH2 ⊢
  clear hP U
  obtain ⟨x, hx'⟩ := ext_at W8
  rw [hx']; clear hx'
  have g0' := HG1.at 0 rfl
  have g1' := HG1.at 1 rfl
  have g2' := HG1.at 2 rfl
  have g3' := HG1.at 3 rfl
  have h0' := HG2.at 0 rfl
  have h1' := HG2.at 1 rfl
  have h2' := HG2.at 2 rfl
  have h3' := HG2.at 3 rfl
  have u0' := HH1.at 0 rfl
  have u1' := HH1.at 1 rfl
  have u2' := HH1.at 2 rfl
  have v0' := HH2.at 0 rfl
  have v1' := HH2.at 1 rfl
  have v2' := HH2.at 2 rfl
  have k0 := cv0.run
  have k1 := cv1.run
  have k2 := cv2.run
  have k3 := cv3.run
  have kb := cvb.run
  have q5 := run_eqI g0 g1 g2 g3 g0 g1 g2 g3 true (by simp [eqI, eqL])
  have q6 := run_eqH_self r0 r1 r2
  clear HG1 HG2 HH1 HH2 cv0 cv1 cv2 cv3 cvb q1 q2 q3 q4
  go_wp2_with fail
  go_ret
  exact ⟨rfl, ext_below B _⟩

end Go.Proofs.Ytaloeaihnkkfeaa
