/- Proved here, of the given program, for every input: FnExactWaitingSum: The program's WaitingSum returns what the reference's returns, for all arguments. Conditions: none. -/
import Derived.Test.YteciijnpfapmhaaLift2
import Derived.Test.YteciijnpfapmhaaL7
namespace Go.Proofs.Yteciijnpfapmhaa
set_option linter.unusedSimpArgs false
set_option linter.unusedVariables false
open Go.RowKit Go.ChangeShapes Go.WideShapes Go.ChangeAt Go.Joins

set_option maxRecDepth 100000 in
theorem FnExactWaitingSum_contract (H : Type) (enc : TypeId × Value → H) (W : World) (base : Nat) (args : Array Value) (ds gs : List (DataW H)) (before : List MemPlace)
    (hval : ∀ (j : Nat) t v, Try.f9.params[j]? = some t → args[j]? = some v → Value.okWide Try.prog W .any base t v)
    (hW : DataW.Whole enc Try.prog Try.f9.params.toList Rows.fnExactWaitingSumSpec.vars false W args.toList ds gs before) :
    Calls Try.prog 9 args W fun e W' => ∃ v, e = .returned v ∧ Rows.fnExactWaitingSumSpec.post enc Try.prog Try.f9 false true false false W args v W' := by
  have hW' := hW
  obtain ⟨p, q, hA, hV, hbef, hfz, hnd⟩ := hW
  have hA' : DataW.TrodAll enc Try.prog W 0 (fun _ => true) true Try.f9.params.toList args.toList ds p := hA
  rw [Try.params9] at hA'
  rw [Try.params9] at hval
  obtain ⟨v0, vs0, d0, ds0, p0, q0, hargs, rfl, rfl, h0, r0⟩ := trodAll_cons hA'
  obtain ⟨v1, vs1, d1, ds1, p1, q1, rfl, rfl, rfl, h1, r1⟩ := trodAll_cons r0
  obtain ⟨v2, vs2, d2, ds2, p2, q2, rfl, rfl, rfl, h2, r2⟩ := trodAll_cons r1
  obtain ⟨v3, vs3, d3, ds3, p3, q3, rfl, rfl, rfl, h3, r3⟩ := trodAll_cons r2
  obtain ⟨rfl, rfl, rfl⟩ := trodAll_nil r3
  obtain rfl : args = #[v0, v1, v2, v3] := by cases args; simp_all
  obtain ⟨rfl, rfl⟩ := trodVars_none hV
  obtain ⟨c0_0, c0_1, y0_0, y0_1, m0, rfl, rfl, rfl, hy0_0, hy0_1⟩ := open_agg2 Try.underlying24 (by kernel_rfl) (show Try.prog.cellsOf 24 = 2 by kernel_rfl) (hval 0 24 v0 rfl rfl) h0
  obtain ⟨d, e0_0, rfl, wf0_0⟩ := DataW.trod_int Try.underlying3 hy0_0
  simp only [List.cons.injEq, and_true] at e0_0
  subst e0_0
  obtain ⟨A_xs, cap_xs, xs, rfl, hr_xs, hl_xs⟩ := open_rows1 Try.underlying22 (show Try.prog.cellsOf 47 = 2 by kernel_rfl) cIv_len (by decide) el_Iv_47 hy0_1
  unfold maxLen at hl_xs
  obtain ⟨A_rs, cap_rs, rs, rfl, hr_rs, hl_rs⟩ := open_rows Try.underlying40 (show Try.prog.cellsOf 3 = 1 by kernel_rfl) cIn_len (by decide) el_In_3 (hval 1 40 v1 rfl rfl) h1
  unfold maxLen at hl_rs
  obtain ⟨p, rfl, rfl, rfl, w2⟩ := open_int Try.underlying3 (hval 2 3 v2 rfl rfl) h2
  obtain ⟨A_pl, cap_pl, pl, rfl, hr_pl, hl_pl⟩ := open_rows Try.underlying40 (show Try.prog.cellsOf 3 = 1 by kernel_rfl) cIn_len (by decide) el_In_3 (hval 3 40 v3 rfl rfl) h3
  unfold maxLen at hl_pl
  refine (c_laws_FnExactWaitingSum d A_xs xs cap_xs A_rs rs cap_rs p A_pl pl cap_pl W hr_xs (by omega) hr_rs (by omega) hr_pl (by omega)).mono fun e W' ⟨he, hb⟩ => ?_
  exact ⟨_, he, law_post laidOut rfl Try.underlying4 rfl rfl rfl rfl (by kernel_rfl) hW' hA (by simpa using hbef) hb⟩

set_option maxRecDepth 100000 in
theorem FnExactWaitingSum_lifted (os : Os) (started : os.Started) (H : Type) (enc : TypeId × Value → H) :
    ReturnsInHanded {} Try.checked os 9 .any (Rows.fnExactWaitingSumSpec.pre6 enc Try.prog Try.f9 Rows.fnExactWaitingSumRow.domain false) (Rows.fnExactWaitingSumSpec.post enc Try.prog Try.f9 false true false false) := by
  refine returnsInHanded_of_change (C := Try.checked) own started (by kernel_rfl) Try.func9
    (ChangeSpec.witness6 (enc := enc) (C := Try.checked) false ⟨#[], #[.agg #[.int .i64 0, .slice none 0 0], .slice none 0 0, .int .i64 0, .slice none 0 0], []⟩ 8 (by kernel_rfl) (by kernel_rfl) (by kernel_rfl) (by kernel_rfl)) ?_
  intro W base args ds gs before hval hW _ _
  exact FnExactWaitingSum_contract H enc W base args ds gs before hval hW

/-- The given statement. -/
theorem FnExactWaitingSum_holds : Rows.FnExactWaitingSumSaid :=
  OpenClaim.holds_of_wide 9 Try.f9 rfl rfl rfl rfl rfl rfl rfl ⟨rfl, rfl, rfl, rfl, rfl⟩ rfl rfl rfl rfl rfl (by kernel_rfl) Try.func9 (by kernel_rfl)
    (of_decide_eq_true (by kernel_rfl)) (by unfold Func.isWrapper; first | (rw [if_pos (by decide +kernel)]; kernel_rfl) | (rw [if_neg (by decide +kernel)]; exact ⟨rfl, rfl⟩))
    (fun os started H enc _ => FnExactWaitingSum_lifted os started H enc)
#print axioms FnExactWaitingSum_holds

end Go.Proofs.Yteciijnpfapmhaa
