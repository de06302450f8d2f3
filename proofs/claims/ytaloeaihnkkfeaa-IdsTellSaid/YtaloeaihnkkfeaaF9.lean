/- The statement IdsTell: for every input the law returns true and each argument reads afterwards as it read before: ids, handles and spans are checked, compared, looked for and cut as the reference does. No condition beyond the given row's own. -/
import Derived.Test.YtaloeaihnkkfeaaW9
import Derived.Test.YtaloeaihnkkfeaaO1
namespace Go.Proofs.Ytaloeaihnkkfeaa
open Go.ChangeShapes Go.WideShapes Go.ChangeAt Go.RowKit Go.Joins

set_option linter.unusedVariables false

set_option maxRecDepth 100000 in
theorem idsTell_lifted (os : Os) (started : os.Started) (H : Type) (enc : TypeId × Value → H) :
    ReturnsInHanded {} Try.checked os 9 .any (Rows.idsTellSpec.pre6 enc Try.prog Try.f9 Rows.idsTellRow.domain false) (Rows.idsTellSpec.post enc Try.prog Try.f9 false true false false) := by
  refine returnsInHanded_of_change (C := Try.checked) Try.own started (by kernel_rfl) Try.func9
    (ChangeSpec.witness6 (enc := enc) (C := Try.checked) false ⟨#[], #[.agg #[.int .u8 0, .int .u32 0, .int .u8 0, .int .i64 0], .agg #[.int .u8 0, .int .u32 0, .int .u8 0, .int .i64 0], .agg #[.int .u8 0, .int .u32 0, .int .u8 0, .int .i64 0, .int .i64 0], .int .i64 0], []⟩ 8 (by kernel_rfl) (by kernel_rfl) (by kernel_rfl) (by kernel_rfl)) ?_
  intro W base args ds gs before hval0 hW hcnd _
  have hval : ∀ (j : Nat) t v, Try.f9.params[j]? = some t → args[j]? = some v → Value.okWide Try.prog W .any base t v := hval0
  have hW' := hW
  obtain ⟨p, q, hA0, hV, rfl, hfz, hnd⟩ := hW
  have hA : DataW.TrodAll enc Try.prog W 0 (fun _ => true) true Try.f9.params.toList args.toList ds p := hA0
  rw [Try.params9] at hA hval
  obtain ⟨v0, vs0, d0, ds0, p0, q0, hargs, rfl, rfl, h0, r0⟩ := trodAll_cons hA
  obtain ⟨v1, vs1, d1, ds1, p1, q1, rfl, rfl, rfl, h1, r1⟩ := trodAll_cons r0
  obtain ⟨v2, vs2, d2, ds2, p2, q2, rfl, rfl, rfl, h2, r2⟩ := trodAll_cons r1
  obtain ⟨v3, vs3, d3, ds3, p3, q3, rfl, rfl, rfl, h3, r3⟩ := trodAll_cons r2
  obtain ⟨rfl, rfl, rfl⟩ := trodAll_nil r3
  obtain rfl : args = #[v0, v1, v2, v3] := by cases args; simp_all
  obtain ⟨rfl, rfl⟩ := trodVars_none hV
  obtain ⟨l0, c0, n0, k0, rfl, bl0, bc0, bn0, bk0⟩ := open_id (hval 0 40 v0 rfl rfl) h0
  obtain ⟨l1, c1, n1, k1, rfl, bl1, bc1, bn1, bk1⟩ := open_id (hval 1 40 v1 rfl rfl) h1
  obtain ⟨l2, c2, n2, k2, m2, rfl, bl2, bc2, bn2, bk2, bm2⟩ := open_span (hval 2 44 v2 rfl rfl) h2
  have tr3 := h3
  obtain ⟨x3, rfl, rfl, rfl, wf3⟩ := open_int Try.underlying3 (hval 3 3 v3 rfl rfl) h3
  have b3 := bounds_i64 wf3
  have tr0 := h0
  have tr1 := h1
  have tr2 := h2
  clear hA0 hval0
  refine (idsTell_all l0 c0 n0 k0 l1 c1 n1 k1 l2 c2 n2 k2 m2 x3 W bl0 bc0 bn0 bk0 bl1 bc1 bn1 bk1 bl2 bc2 bn2 bk2 bm2 b3).mono fun e W' ⟨he, bel⟩ => ?_
  subst he
  exact ⟨_, rfl, _, _, _, [], _, [], hW', trodAll_mk1 (shut_bool Try.underlying4 _), (trodAll_cons_mk (Below.trod Try.laidOut (by kernel_rfl) (of_decide_eq_true (by kernel_rfl)) tr0 bel (trod_lt tr0)) (trodAll_cons_mk (Below.trod Try.laidOut (by kernel_rfl) (of_decide_eq_true (by kernel_rfl)) tr1 bel (trod_lt tr1)) (trodAll_cons_mk (Below.trod Try.laidOut (by kernel_rfl) (of_decide_eq_true (by kernel_rfl)) tr2 bel (trod_lt tr2)) (trodAll_cons_mk (Below.trod Try.laidOut (by kernel_rfl) (of_decide_eq_true (by kernel_rfl)) tr3 bel (trod_lt tr3)) trodAll_mk0)))), rfl, bel.frame _, fun h => by cases h⟩

theorem idsTell_over : Rows.idsTellRow.holds Try.pinned (OpenSpec.ofChange Rows.idsTellSpec) :=
  OpenClaim.holds_of_wide 9 Try.f9 rfl rfl rfl rfl rfl rfl rfl ⟨rfl, rfl, rfl, rfl, rfl⟩ rfl rfl rfl rfl rfl (by kernel_rfl) Try.func9 (by kernel_rfl)
    (of_decide_eq_true (by kernel_rfl)) (by unfold Func.isWrapper; first | (rw [if_pos (by decide +kernel)]; kernel_rfl) | (rw [if_neg (by decide +kernel)]; exact ⟨rfl, rfl⟩))
    (fun os started H enc _ => idsTell_lifted os started H enc)

/-- The given statement. -/
theorem idsTell_holds : Rows.IdsTellSaid := idsTell_over
#print axioms idsTell_holds
end Go.Proofs.Ytaloeaihnkkfeaa
