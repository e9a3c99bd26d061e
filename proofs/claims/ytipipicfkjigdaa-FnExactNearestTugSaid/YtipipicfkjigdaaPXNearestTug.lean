/- Proved here, of the given program, for every input: FnExactNearestTug: The program's NearestTug returns what the reference's returns, for all arguments. Conditions: none. -/
import Derived.Test.YtipipicfkjigdaaLift2
import Derived.Test.YtipipicfkjigdaaL4
namespace Go.Proofs.Ytipipicfkjigdaa
set_option linter.unusedSimpArgs false
set_option linter.unusedVariables false
open Go.RowKit Go.ChangeShapes Go.WideShapes Go.ChangeAt Go.Joins

theorem FnExactNearestTug_contract (H : Type) (enc : TypeId × Value → H) (W : World) (base : Nat) (args : Array Value) (ds gs : List (DataW H)) (before : List MemPlace)
    (hval : ∀ (j : Nat) t v, Try.f5.params[j]? = some t → args[j]? = some v → Value.okWide Try.prog W .any base t v)
    (hW : DataW.Whole enc Try.prog Try.f5.params.toList Rows.fnExactNearestTugSpec.vars false W args.toList ds gs before) :
    Calls Try.prog 5 args W fun e W' => ∃ v, e = .returned v ∧ Rows.fnExactNearestTugSpec.post enc Try.prog Try.f5 false true false false W args v W' := by
  have hW' := hW
  obtain ⟨p, q, hA, hV, hbef, hfz, hnd⟩ := hW
  have hA' : DataW.TrodAll enc Try.prog W 0 (fun _ => true) true Try.f5.params.toList args.toList ds p := hA
  rw [Try.params5] at hA'
  rw [Try.params5] at hval
  obtain ⟨v0, vs0, d0, ds0, p0, q0, hargs, rfl, rfl, h0, r0⟩ := trodAll_cons hA'
  obtain ⟨v1, vs1, d1, ds1, p1, q1, rfl, rfl, rfl, h1, r1⟩ := trodAll_cons r0
  obtain ⟨rfl, rfl, rfl⟩ := trodAll_nil r1
  obtain rfl : args = #[v0, v1] := by cases args; simp_all
  obtain ⟨rfl, rfl⟩ := trodVars_none hV
  obtain ⟨A_xs, cap_xs, xs, rfl, hr_xs, hl_xs⟩ := open_rows Try.underlying22 (show Try.prog.cellsOf 64 = 3 by kernel_rfl) cTug_len (by decide) el_Tug_64 (hval 0 22 v0 rfl rfl) h0
  unfold maxLen at hl_xs
  obtain ⟨c1_0, c1_1, c1_2, c1_3, c1_4, y1_0, y1_1, y1_2, y1_3, y1_4, m1, rfl, rfl, rfl, hy1_0, hy1_1, hy1_2, hy1_3, hy1_4⟩ := open_agg5 Try.underlying37 (by kernel_rfl) (show Try.prog.cellsOf 37 = 5 by kernel_rfl) (hval 1 37 v1 rfl rfl) h1
  obtain ⟨i, e1_0, rfl, wf1_0⟩ := DataW.trod_int Try.underlying3 hy1_0
  obtain ⟨f, e1_1, rfl, wf1_1⟩ := DataW.trod_int Try.underlying3 hy1_1
  obtain ⟨t, e1_2, rfl, wf1_2⟩ := DataW.trod_int Try.underlying3 hy1_2
  obtain ⟨p, e1_3, rfl, wf1_3⟩ := DataW.trod_int Try.underlying3 hy1_3
  obtain ⟨r, e1_4, rfl, wf1_4⟩ := DataW.trod_int Try.underlying3 hy1_4
  simp at e1_0 e1_1 e1_2 e1_3 e1_4
  subst e1_0 e1_1 e1_2 e1_3 e1_4
  refine (c_laws_FnExactNearestTug A_xs xs cap_xs i f t p r W hr_xs (by omega)).mono fun e W' ⟨he, hb⟩ => ?_
  exact ⟨_, he, law_post laidOut rfl Try.underlying4 rfl rfl rfl rfl (by kernel_rfl) hW' hA (by simpa using hbef) hb⟩

set_option maxRecDepth 100000 in
theorem FnExactNearestTug_lifted (os : Os) (started : os.Started) (H : Type) (enc : TypeId × Value → H) :
    ReturnsInHanded {} Try.checked os 5 .any (Rows.fnExactNearestTugSpec.pre6 enc Try.prog Try.f5 Rows.fnExactNearestTugRow.domain false) (Rows.fnExactNearestTugSpec.post enc Try.prog Try.f5 false true false false) := by
  refine returnsInHanded_of_change (C := Try.checked) own started (by kernel_rfl) Try.func5
    (ChangeSpec.witness6 (enc := enc) (C := Try.checked) false ⟨#[], #[.slice none 0 0, .agg #[.int .i64 0, .int .i64 0, .int .i64 0, .int .i64 0, .int .i64 0]], []⟩ 8 (by kernel_rfl) (by kernel_rfl) (by kernel_rfl) (by kernel_rfl)) ?_
  intro W base args ds gs before hval hW _ _
  exact FnExactNearestTug_contract H enc W base args ds gs before hval hW

/-- The given statement. -/
theorem FnExactNearestTug_holds : Rows.FnExactNearestTugSaid :=
  OpenClaim.holds_of_wide 5 Try.f5 rfl rfl rfl rfl rfl rfl rfl ⟨rfl, rfl, rfl, rfl, rfl⟩ rfl rfl rfl rfl rfl (by kernel_rfl) Try.func5 (by kernel_rfl)
    (of_decide_eq_true (by kernel_rfl)) (by unfold Func.isWrapper; first | (rw [if_pos (by decide +kernel)]; kernel_rfl) | (rw [if_neg (by decide +kernel)]; exact ⟨rfl, rfl⟩))
    (fun os started H enc _ => FnExactNearestTug_lifted os started H enc)
#print axioms FnExactNearestTug_holds

end Go.Proofs.Ytipipicfkjigdaa
