import Derived.Test.YtaloeaihnkkfeaaW11
import Derived.Test.YtaloeaihnkkfeaaO2
namespace Go.Proofs.Ytaloeaihnkkfeaa
open Go.RowKit

theorem back_all (l c n k : Int) (a : Option Addr) (len cap : Nat) (zs : List Int) (w : World) (b0 : 0 ≤ l ∧ l ≤ 255) (b1 : 0 ≤ c ∧ c < 4294967296) (b2 : 0 ≤ n ∧ n ≤ 255) (_b3 : -9223372036854775808 ≤ k ∧ k ≤ 9223372036854775807) (hr : IsRow w a len cap zs) :
    Calls Try.prog 11 #[.agg #[.int .u8 l, .int .u32 c, .int .u8 n, .int .i64 k], .slice a len cap] w fun e w' => e = .returned (.bool true) ∧ Below w.heap.size w w' := by
  by_cases h1 : 1000 < len
  · exact back_long l c n k a len cap w h1
  · by_cases h2 : len = 13
    · subst h2
      obtain ⟨b, off, rfl, hcap, hb, hx⟩ := hr.bytes (by omega)
      cases hm : mayI ((zs.take 13).getD 0 0) ((zs.take 13).getD 5 0) (ctrOf (zs.take 13))
      · cases hp : mayI l n k
        · exact back_not_no l c n k b off cap w hp (GotIs.no hb hcap hx hm)
        · exact back_put_no l c n k b off cap w hp b0 b2 b1.1 b1.2 (GotIs.no hb hcap hx hm)
      · have hk := catsOf_bounds (zs.take 13) hx (by rw [hb.size]; omega)
        cases hp : mayI l n k
        · exact back_not_yes l c n k b off cap _ _ _ _ _ w hp (GotIs.yes hb hcap hx hm) hb (iBytes_back _ hb.size hx) hm hk.1 hk.2
        · exact back_put_yes l c n k b off cap _ _ _ _ _ w hp b0 b2 b1.1 b1.2 (GotIs.yes hb hcap hx hm) hb (iBytes_back _ hb.size hx) hm hk.1 hk.2
    · cases hp : mayI l n k
      · exact back_not_len l c n k a len cap w hp (by omega) (by simp; omega) (by simp; omega)
      · exact back_put_len l c n k a len cap w hp b0 b2 b1.1 b1.2 (by omega) (by simp; omega) (by simp; omega)

end Go.Proofs.Ytaloeaihnkkfeaa
