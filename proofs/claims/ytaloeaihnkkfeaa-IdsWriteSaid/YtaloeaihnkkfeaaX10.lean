import Derived.Test.YtaloeaihnkkfeaaW10
namespace Go.Proofs.Ytaloeaihnkkfeaa
open Go.RowKit

theorem conv_zero (x : Addr) (cap : Nat) (w : World) : (convert 62 9 (.slice (some x) 0 cap)).run Try.prog w = .ok (.string ByteArray.empty) w := by
  rw [run_convert_bytes_string w 62 9 5 _ 0 cap Try.underlying62 Try.underlying5 Try.underlying9]
  simp [Go.Conv.bytesToString]
  rfl
theorem IsRow.conv {w : World} {a : Option Addr} {len cap : Nat} {zs : List Int} (h : IsRow w a len cap zs) : ∃ s, Conv w (.slice a len cap) s := by
  by_cases hp : 0 < len
  · obtain ⟨b, off, rfl, _, hb, _⟩ := h.bytes hp
    exact ⟨_, ⟨fun X => conv_in hb cap X⟩⟩
  · obtain rfl : len = 0 := by omega
    rcases h with ⟨rfl, _, rfl, _⟩ | ⟨x, rfl, _⟩
    · exact ⟨_, Conv.nil w⟩
    · exact ⟨_, ⟨fun X => conv_zero x cap X.at'⟩⟩

theorem puts (l c n k : Int) (h0 : 0 ≤ c) (h1 : c < 4294967296) : ∃ s e, PutIs 44 (.agg #[.int .u8 l, .int .u32 c, .int .u8 n, .int .i64 k]) s e ∧ PutIs 45 (.agg #[.int .u8 l, .int .u32 c, .int .u8 n, .int .i64 k]) s e := by
  cases h : mayI l n k
  · exact ⟨_, 8, fun w => (put_bad l c n k w h).mono fun _ w' ⟨he, hb⟩ => ⟨_, he, Conv.nil w', hb⟩, fun w => (rput_bad l c n k w h).mono fun _ w' ⟨he, hb⟩ => ⟨_, he, Conv.nil w', hb⟩⟩
  · exact ⟨_, 0, fun w => (put_ok l c n k w h h0 h1).mono fun _ _ ⟨_, _, he, ho, hb⟩ => ⟨_, he, ⟨fun X => conv_own ho (iBytes_len _ _ _ _) X⟩, hb⟩,
      fun w => (rput_ok l c n k w h h0 h1).mono fun _ _ ⟨_, _, he, ho, hb⟩ => ⟨_, he, ⟨fun X => conv_own ho (iBytes_len _ _ _ _) X⟩, hb⟩⟩
theorem putHs (l c n : Int) (h0 : 0 ≤ c) (h1 : c < 4294967296) : ∃ s e, PutIs 46 (.agg #[.int .u8 l, .int .u32 c, .int .u8 n]) s e ∧ PutIs 47 (.agg #[.int .u8 l, .int .u32 c, .int .u8 n]) s e := by
  cases h : mayH l n
  · exact ⟨_, 8, fun w => (putH_bad l c n w h).mono fun _ w' ⟨he, hb⟩ => ⟨_, he, Conv.nil w', hb⟩, fun w => (rputH_bad l c n w h).mono fun _ w' ⟨he, hb⟩ => ⟨_, he, Conv.nil w', hb⟩⟩
  · exact ⟨_, 0, fun w => (putH_ok l c n w h h0 h1).mono fun _ _ ⟨_, _, he, ho, hb⟩ => ⟨_, he, ⟨fun X => conv_own ho (hBytes_len _ _ _) X⟩, hb⟩,
      fun w => (rputH_ok l c n w h h0 h1).mono fun _ _ ⟨_, _, he, ho, hb⟩ => ⟨_, he, ⟨fun X => conv_own ho (hBytes_len _ _ _) X⟩, hb⟩⟩

/-- The reference's GetHandle of the first six of some bytes. -/
theorem rgetH_yes {w : World} {b off len cap : Nat} {xs : List Int} (hb : BytesIn w b off len xs) (hl : 6 ≤ len) (hcap : len ≤ cap) (hx : U8s xs) (hm : mayH (xs.getD 0 0) (xs.getD 5 0) = true) (w' : World) (h : Below w.heap.size w w') :
    Calls Try.prog 51 #[.slice (some ⟨b, off, none⟩) 6 cap] w' fun e w'' => e = .returned (.tuple #[.agg #[.int .u8 (xs.getD 0 0), .int .u32 (catsOf xs), .int .u8 (xs.getD 5 0)], .int .i64 0]) ∧ Below w'.heap.size w' w'' := by
  have hb' := hb.up h
  obtain ⟨k0, k1⟩ := catsOf_bounds xs hx (by rw [hb.size]; omega)
  exact rgetH_ok b off cap _ _ _ w' hb'.lt (hb'.cell 0 (by omega)) (hb'.cell 5 (by omega)) k0 k1 (CatsR.mk' hb' hl hx) (by omega) hm
theorem rgetH_not {w : World} {b off len cap : Nat} {xs : List Int} (hb : BytesIn w b off len xs) (hl : 6 ≤ len) (hcap : len ≤ cap) (hx : U8s xs) (hm : mayH (xs.getD 0 0) (xs.getD 5 0) = false) (w' : World) (h : Below w.heap.size w w') :
    Calls Try.prog 51 #[.slice (some ⟨b, off, none⟩) 6 cap] w' fun e w'' => e = .returned (.tuple #[.agg #[.int .u8 0, .int .u32 0, .int .u8 0], .int .i64 8]) ∧ Below w'.heap.size w' w'' := by
  have hb' := hb.up h
  obtain ⟨k0, k1⟩ := catsOf_bounds xs hx (by rw [hb.size]; omega)
  exact rgetH_no b off cap _ _ _ w' hb'.lt (hb'.cell 0 (by omega)) (hb'.cell 5 (by omega)) k0 k1 (CatsR.mk' hb' hl hx) (by omega) hm

theorem gots {w : World} {a : Option Addr} {len cap : Nat} {zs : List Int} (hr : IsRow w a len cap zs) :
    ∃ g0 g1 g2 g3 e, GotG w 48 (.slice a len cap) (.agg #[.int .u8 g0, .int .u32 g1, .int .u8 g2, .int .i64 g3]) e ∧ GotG w 49 (.slice a len cap) (.agg #[.int .u8 g0, .int .u32 g1, .int .u8 g2, .int .i64 g3]) e := by
  by_cases h2 : len = 13
  · subst h2
    obtain ⟨b, off, rfl, hcap, hb, hx⟩ := hr.bytes (by omega)
    have hR : ∀ (X : Ext w) (cap' : Nat) (w' : World), Below X.at'.heap.size X.at' w' → Calls Try.prog 71 #[.slice (some ⟨b, off + 6, none⟩) 7 cap'] w' fun r w'' => r = .returned (.int .i64 (ctrOf (zs.take 13))) ∧ w' = w'' :=
      fun X cap' w' h => rnum_sub b off 13 cap' 6 7 _ w' ((hb.up X.below).up h) (by omega) (by omega) hx
    cases hm : mayI ((zs.take 13).getD 0 0) ((zs.take 13).getD 5 0) (ctrOf (zs.take 13))
    · cases hH : mayH ((zs.take 13).getD 0 0) ((zs.take 13).getD 5 0)
      · exact ⟨_, _, _, _, _, ⟨(GotIs.no hb hcap hx hm).gets⟩, ⟨fun X => rget_A b off cap _ X.at' hcap (fun w' h => rgetH_not (hb.up X.below) (by omega) hcap hx hH w' h) (hR X)⟩⟩
      · exact ⟨_, _, _, _, _, ⟨(GotIs.no hb hcap hx hm).gets⟩, ⟨fun X => rget_B b off cap _ _ _ _ X.at' hcap (fun w' h => rgetH_yes (hb.up X.below) (by omega) hcap hx hH w' h) (hR X) hm⟩⟩
    · have hH : mayH ((zs.take 13).getD 0 0) ((zs.take 13).getD 5 0) = true := by have := (mayI_iff _ _ _).1 hm; exact (mayH_iff _ _).2 ⟨this.1, this.2.1⟩
      exact ⟨_, _, _, _, _, ⟨(GotIs.yes hb hcap hx hm).gets⟩, ⟨fun X => rget_C b off cap _ _ _ _ X.at' hcap (fun w' h => rgetH_yes (hb.up X.below) (by omega) hcap hx hH w' h) (hR X) hm⟩⟩
  · exact ⟨0, 0, 0, 0, 8, ⟨fun X => get_len a len cap X.at' (by simp; omega) (by simp; omega)⟩, ⟨fun X => rget_len a len cap X.at' (by simp; omega) (by simp; omega)⟩⟩
theorem gotHs {w : World} {a : Option Addr} {len cap : Nat} {zs : List Int} (hr : IsRow w a len cap zs) :
    ∃ r0 r1 r2 e, GotG w 50 (.slice a len cap) (.agg #[.int .u8 r0, .int .u32 r1, .int .u8 r2]) e ∧ GotG w 51 (.slice a len cap) (.agg #[.int .u8 r0, .int .u32 r1, .int .u8 r2]) e := by
  by_cases h2 : len = 6
  · subst h2
    obtain ⟨b, off, rfl, hcap, hb, hx⟩ := hr.bytes (by omega)
    obtain ⟨k0, k1⟩ := catsOf_bounds (zs.take 6) hx (by rw [hb.size]; omega)
    have hN : ∀ (r : Bool), mayH ((zs.take 6).getD 0 0) ((zs.take 6).getD 5 0) = r → ∀ (X : Ext w) (w' : World), Below X.at'.heap.size X.at' w' → Calls Try.prog 69 #[.slice (some ⟨b, off, none⟩) 6 cap] w' fun e w'' => e = .returned (.agg #[.int .u8 ((zs.take 6).getD 0 0), .int .u32 (catsOf (zs.take 6)), .int .u8 ((zs.take 6).getD 5 0), .int .i64 (rt r)]) ∧ Below w'.heap.size w' w'' := fun r h X w' hw => by
      have hb' := (hb.up X.below).up hw
      exact named_lit b off 6 cap _ _ _ r w' hb'.lt (hb'.cell 0 (by omega)) (hb'.cell 5 (by omega)) k0 k1 (Cats.mk' hb' (by omega) hx) (.inl rfl) hcap h
    cases hH : mayH ((zs.take 6).getD 0 0) ((zs.take 6).getD 5 0)
    · exact ⟨_, _, _, _, ⟨fun X => getH_no b off cap _ _ _ X.at' (hN false hH X)⟩, ⟨fun X => rgetH_not (hb.up X.below) (by omega) hcap hx hH _ (Below.refl _ _)⟩⟩
    · exact ⟨_, _, _, _, ⟨fun X => getH_ok b off cap _ _ _ X.at' (hN true hH X)⟩, ⟨fun X => rgetH_yes (hb.up X.below) (by omega) hcap hx hH _ (Below.refl _ _)⟩⟩
  · exact ⟨0, 0, 0, 8, ⟨fun X => getH_len a len cap X.at' (by simp; omega) (by simp; omega)⟩, ⟨fun X => rgetH_len a len cap X.at' (by simp; omega) (by simp; omega)⟩⟩

theorem write_all (l c n k : Int) (a : Option Addr) (len cap : Nat) (zs : List Int) (w : World) (_b0 : 0 ≤ l ∧ l ≤ 255) (b1 : 0 ≤ c ∧ c < 4294967296) (_b2 : 0 ≤ n ∧ n ≤ 255) (_b3 : -9223372036854775808 ≤ k ∧ k ≤ 9223372036854775807) (hr : IsRow w a len cap zs) :
    Calls Try.prog 10 #[.agg #[.int .u8 l, .int .u32 c, .int .u8 n, .int .i64 k], .slice a len cap] w fun e w' => e = .returned (.bool true) ∧ Below w.heap.size w w' := by
  by_cases h1 : 1000 < len
  · exact write_long l c n k a len cap w h1
  · obtain ⟨s0, hs⟩ := hr.conv
    obtain ⟨s1, e1, p1, p2⟩ := puts l c n k b1.1 b1.2
    obtain ⟨s2, e2, p3, p4⟩ := putHs l c n b1.1 b1.2
    obtain ⟨g0, g1, g2, g3, eg, q1, q2⟩ := gots hr
    obtain ⟨r0, r1, r2, eh, q3, q4⟩ := gotHs hr
    exact write_walk l c n k a len cap s0 s1 s2 e1 e2 g0 g1 g2 g3 eg r0 r1 r2 eh w (by omega) hs p1 p2 p3 p4 q1 q2 q3 q4

end Go.Proofs.Ytaloeaihnkkfeaa
