/- The statement IdsCut: for every input the law returns true and each argument reads afterwards as it read before: what is cut is what was there, in two. No condition beyond the given row's own. -/
import Derived.Test.YtaloeaihnkkfeaaW12
import Derived.Test.YtaloeaihnkkfeaaO1
namespace Go.Proofs.Ytaloeaihnkkfeaa
open Go.ChangeShapes Go.WideShapes Go.ChangeAt Go.RowKit Go.Joins

set_option linter.unusedVariables false

set_option maxRecDepth 100000 in
theorem idsCut_lifted (os : Os) (started : os.Started) (H : Type) (enc : TypeId × Value → H) :
    ReturnsInHanded {} Try.checked os 12 .any (Rows.idsCutSpec.pre6 enc Try.prog Try.f12 Rows.idsCutRow.domain false) (Rows.idsCutSpec.post enc Try.prog Try.f12 false true false false) := by
  refine returnsInHanded_of_change (C := Try.checked) Try.own started (by kernel_rfl) Try.func12
    (ChangeSpec.witness6 (enc := enc) (C := Try.checked) false ⟨#[], #[.agg #[.int .u8 0, .int .u32 0, .int .u8 0, .int .i64 0, .int .i64 0], .int .i64 0, .int .i64 0, .agg #[.int .u8 0, .int .u32 0, .int .u8 0, .int .i64 0]], []⟩ 8 (by kernel_rfl) (by kernel_rfl) (by kernel_rfl) (by kernel_rfl)) ?_
  intro W base args ds gs before hval0 hW hcnd _
  have hval : ∀ (j : Nat) t v, Try.f12.params[j]? = some t → args[j]? = some v → Value.okWide Try.prog W .any base t v := hval0
  have hW' := hW
  obtain ⟨p, q, hA0, hV, rfl, hfz, hnd⟩ := hW
  have hA : DataW.TrodAll enc Try.prog W 0 (fun _ => true) true Try.f12.params.toList args.toList ds p := hA0
  rw [Try.params12] at hA hval
  obtain ⟨v0, vs0, d0, ds0, p0, q0, hargs, rfl, rfl, h0, r0⟩ := trodAll_cons hA
  obtain ⟨v1, vs1, d1, ds1, p1, q1, rfl, rfl, rfl, h1, r1⟩ := trodAll_cons r0
  obtain ⟨v2, vs2, d2, ds2, p2, q2, rfl, rfl, rfl, h2, r2⟩ := trodAll_cons r1
  obtain ⟨v3, vs3, d3, ds3, p3, q3, rfl, rfl, rfl, h3, r3⟩ := trodAll_cons r2
  obtain ⟨rfl, rfl, rfl⟩ := trodAll_nil r3
  obtain rfl : args = #[v0, v1, v2, v3] := by cases args; simp_all
  obtain ⟨rfl, rfl⟩ := trodVars_none hV
  obtain ⟨l0, c0, n0, k0, m0, rfl, bl0, bc0, bn0, bk0, bm0⟩ := open_span (hval 0 44 v0 rfl rfl) h0
  have tr1 := h1
  obtain ⟨x1, rfl, rfl, rfl, wf1⟩ := open_int Try.underlying3 (hval 1 3 v1 rfl rfl) h1
  have b1 := bounds_i64 wf1
  have tr2 := h2
  obtain ⟨x2, rfl, rfl, rfl, wf2⟩ := open_int Try.underlying3 (hval 2 3 v2 rfl rfl) h2
  have b2 := bounds_i64 wf2
  obtain ⟨l3, c3, n3, k3, rfl, bl3, bc3, bn3, bk3⟩ := open_id (hval 3 40 v3 rfl rfl) h3
  have tr0 := h0
  have tr3 := h3
  clear hA0 hval0
  refine (idsCut_all l0 c0 n0 k0 m0 x1 x2 l3 c3 n3 k3 W bl0 bc0 bn0 bk0 bm0 b1 b2 bl3 bc3 bn3 bk3).mono fun e W' ⟨he, bel⟩ => ?_
  subst he
  exact ⟨_, rfl, _, _, _, [], _, [], hW', trodAll_mk1 (shut_bool Try.underlying4 _), (trodAll_cons_mk (Below.trod Try.laidOut (by kernel_rfl) (of_decide_eq_true (by kernel_rfl)) tr0 bel (trod_lt tr0)) (trodAll_cons_mk (Below.trod Try.laidOut (by kernel_rfl) (of_decide_eq_true (by kernel_rfl)) tr1 bel (trod_lt tr1)) (trodAll_cons_mk (Below.trod Try.laidOut (by kernel_rfl) (of_decide_eq_true (by kernel_rfl)) tr2 bel (trod_lt tr2)) (trodAll_cons_mk (Below.trod Try.laidOut (by kernel_rfl) (of_decide_eq_true (by kernel_rfl)) tr3 bel (trod_lt tr3)) trodAll_mk0)))), rfl, bel.frame _, fun h => by cases h⟩

theorem idsCut_over : Rows.idsCutRow.holds Try.pinned (OpenSpec.ofChange Rows.idsCutSpec) :=
  OpenClaim.holds_of_wide 12 Try.f12 rfl rfl rfl rfl rfl rfl rfl ⟨rfl, rfl, rfl, rfl, rfl⟩ rfl rfl rfl rfl rfl (by kernel_rfl) Try.func12 (by kernel_rfl)
    (of_decide_eq_true (by kernel_rfl)) (by unfold Func.isWrapper; first | (rw [if_pos (by decide +kernel)]; kernel_rfl) | (rw [if_neg (by decide +kernel)]; exact ⟨rfl, rfl⟩))
    (fun os started H enc _ => idsCut_lifted os started H enc)

/-- The given statement. -/
theorem idsCut_holds : Rows.IdsCutSaid := idsCut_over
#print axioms idsCut_holds
end Go.Proofs.Ytaloeaihnkkfeaa
