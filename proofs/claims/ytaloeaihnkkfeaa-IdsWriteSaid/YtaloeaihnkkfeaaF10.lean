/- The statement IdsWrite: for every input the law returns true and each argument reads afterwards as it read before: ids and handles are written and read as the reference does. No condition beyond the given row's own. -/
import Derived.Test.YtaloeaihnkkfeaaX10
import Derived.Test.YtaloeaihnkkfeaaO2
namespace Go.Proofs.Ytaloeaihnkkfeaa
open Go.ChangeShapes Go.WideShapes Go.ChangeAt Go.RowKit Go.Joins

set_option linter.unusedVariables false

set_option maxRecDepth 100000 in
theorem idsWrite_lifted (os : Os) (started : os.Started) (H : Type) (enc : TypeId × Value → H) :
    ReturnsInHanded {} Try.checked os 10 .any (Rows.idsWriteSpec.pre6 enc Try.prog Try.f10 Rows.idsWriteRow.domain false) (Rows.idsWriteSpec.post enc Try.prog Try.f10 false true false false) := by
  refine returnsInHanded_of_change (C := Try.checked) Try.own started (by kernel_rfl) Try.func10
    (ChangeSpec.witness6 (enc := enc) (C := Try.checked) false ⟨#[], #[.agg #[.int .u8 0, .int .u32 0, .int .u8 0, .int .i64 0], .slice none 0 0], []⟩ 8 (by kernel_rfl) (by kernel_rfl) (by kernel_rfl) (by kernel_rfl)) ?_
  intro W base args ds gs before hval0 hW hcnd _
  have hval : ∀ (j : Nat) t v, Try.f10.params[j]? = some t → args[j]? = some v → Value.okWide Try.prog W .any base t v := hval0
  have hW' := hW
  obtain ⟨p, q, hA0, hV, rfl, hfz, hnd⟩ := hW
  have hA : DataW.TrodAll enc Try.prog W 0 (fun _ => true) true Try.f10.params.toList args.toList ds p := hA0
  rw [Try.params10] at hA hval
  obtain ⟨v0, vs0, d0, ds0, p0, q0, hargs, rfl, rfl, h0, r0⟩ := trodAll_cons hA
  obtain ⟨v1, vs1, d1, ds1, p1, q1, rfl, rfl, rfl, h1, r1⟩ := trodAll_cons r0
  obtain ⟨rfl, rfl, rfl⟩ := trodAll_nil r1
  obtain rfl : args = #[v0, v1] := by cases args; simp_all
  obtain ⟨rfl, rfl⟩ := trodVars_none hV
  obtain ⟨l0, c0, n0, k0, rfl, bl0, bc0, bn0, bk0⟩ := open_id (hval 0 40 v0 rfl rfl) h0
  obtain ⟨a1, len1, cap1, rfl⟩ := okWide_slice Try.underlying62 (hval 1 62 v1 rfl rfl)
  have row1 := open_bytes h1
  obtain ⟨z1, row1⟩ := row1
  have tr0 := h0
  have tr1 := h1
  clear hA0 hval0
  refine (write_all l0 c0 n0 k0 a1 len1 cap1 z1 W bl0 bc0 bn0 bk0 row1).mono fun e W' ⟨he, bel⟩ => ?_
  subst he
  exact ⟨_, rfl, _, _, _, [], _, [], hW', trodAll_mk1 (shut_bool Try.underlying4 _), (trodAll_cons_mk (Below.trod Try.laidOut (by kernel_rfl) (of_decide_eq_true (by kernel_rfl)) tr0 bel (trod_lt tr0)) (trodAll_cons_mk (Below.trod Try.laidOut (by kernel_rfl) (of_decide_eq_true (by kernel_rfl)) tr1 bel (trod_lt tr1)) trodAll_mk0)), rfl, bel.frame _, fun h => by cases h⟩

theorem idsWrite_over : Rows.idsWriteRow.holds Try.pinned (OpenSpec.ofChange Rows.idsWriteSpec) :=
  OpenClaim.holds_of_wide 10 Try.f10 rfl rfl rfl rfl rfl rfl rfl ⟨rfl, rfl, rfl, rfl, rfl⟩ rfl rfl rfl rfl rfl (by kernel_rfl) Try.func10 (by kernel_rfl)
    (of_decide_eq_true (by kernel_rfl)) (by unfold Func.isWrapper; first | (rw [if_pos (by decide +kernel)]; kernel_rfl) | (rw [if_neg (by decide +kernel)]; exact ⟨rfl, rfl⟩))
    (fun os started H enc _ => idsWrite_lifted os started H enc)

/-- The given statement. -/
theorem idsWrite_holds : Rows.IdsWriteSaid := idsWrite_over
#print axioms idsWrite_holds
end Go.Proofs.Ytaloeaihnkkfeaa
