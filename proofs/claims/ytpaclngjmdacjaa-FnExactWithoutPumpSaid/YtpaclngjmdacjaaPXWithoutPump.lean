/- Proved here, of the given program, for every input: FnExactWithoutPump: The program's WithoutPump returns what the reference's returns, for all arguments. Conditions: none. -/
import Derived.Test.YtpaclngjmdacjaaLift2
import Derived.Test.YtpaclngjmdacjaaL8
namespace Go.Proofs.Ytpaclngjmdacjaa
set_option linter.unusedSimpArgs false
set_option linter.unusedVariables false
open Go.RowKit Go.ChangeShapes Go.WideShapes Go.ChangeAt Go.Joins

set_option maxRecDepth 100000 in
theorem FnExactWithoutPump_contract (H : Type) (enc : TypeId × Value → H) (W : World) (base : Nat) (args : Array Value) (ds gs : List (DataW H)) (before : List MemPlace)
    (hval : ∀ (j : Nat) t v, Try.f8.params[j]? = some t → args[j]? = some v → Value.okWide Try.prog W .any base t v)
    (hW : DataW.Whole enc Try.prog Try.f8.params.toList Rows.fnExactWithoutPumpSpec.vars false W args.toList ds gs before) :
    Calls Try.prog 8 args W fun e W' => ∃ v, e = .returned v ∧ Rows.fnExactWithoutPumpSpec.post enc Try.prog Try.f8 false true false false W args v W' := by
  have hW' := hW
  obtain ⟨p, q, hA, hV, hbef, hfz, hnd⟩ := hW
  have hA' : DataW.TrodAll enc Try.prog W 0 (fun _ => true) true Try.f8.params.toList args.toList ds p := hA
  rw [Try.params8] at hA'
  rw [Try.params8] at hval
  obtain ⟨v0, vs0, d0, ds0, p0, q0, hargs, rfl, rfl, h0, r0⟩ := trodAll_cons hA'
  obtain ⟨v1, vs1, d1, ds1, p1, q1, rfl, rfl, rfl, h1, r1⟩ := trodAll_cons r0
  obtain ⟨rfl, rfl, rfl⟩ := trodAll_nil r1
  obtain rfl : args = #[v0, v1] := by cases args; simp_all
  obtain ⟨rfl, rfl⟩ := trodVars_none hV
  obtain ⟨c0_0, c0_1, c0_2, c0_3, c0_4, y0_0, y0_1, y0_2, y0_3, y0_4, m0, rfl, rfl, rfl, hy0_0, hy0_1, hy0_2, hy0_3, hy0_4⟩ := open_agg5 Try.underlying25 (by kernel_rfl) (show Try.prog.cellsOf 25 = 5 by kernel_rfl) (hval 0 25 v0 rfl rfl) h0
  obtain ⟨l, e0_0, rfl, wf0_0⟩ := DataW.trod_int Try.underlying3 hy0_0
  simp only [List.cons.injEq, and_true] at e0_0
  subst e0_0
  obtain ⟨u, e0_1, rfl, wf0_1⟩ := DataW.trod_int Try.underlying3 hy0_1
  simp only [List.cons.injEq, and_true] at e0_1
  subst e0_1
  obtain ⟨v, e0_2, rfl, wf0_2⟩ := DataW.trod_int Try.underlying3 hy0_2
  simp only [List.cons.injEq, and_true] at e0_2
  subst e0_2
  obtain ⟨A_fs, cap_fs, fs, rfl, hr_fs, hl_fs⟩ := open_rows1 Try.underlying22 (show Try.prog.cellsOf 3 = 1 by kernel_rfl) cIn_len (by decide) el_In_3 hy0_3
  unfold maxLen at hl_fs
  obtain ⟨A_ps, cap_ps, ps, rfl, hr_ps, hl_ps⟩ := open_rows1 Try.underlying23 (show Try.prog.cellsOf 91 = 3 by kernel_rfl) cPu_len (by decide) el_Pu_91 hy0_4
  unfold maxLen at hl_ps
  obtain ⟨i, rfl, rfl, rfl, w1⟩ := open_int Try.underlying3 (hval 1 3 v1 rfl rfl) h1
  refine (c_laws_FnExactWithoutPump l u v A_fs fs cap_fs A_ps ps cap_ps i W hr_fs (by omega) hr_ps (by omega)).mono fun e W' ⟨he, hb⟩ => ?_
  exact ⟨_, he, law_post laidOut rfl Try.underlying4 rfl rfl rfl rfl (by kernel_rfl) hW' hA (by simpa using hbef) hb⟩

set_option maxRecDepth 100000 in
theorem FnExactWithoutPump_lifted (os : Os) (started : os.Started) (H : Type) (enc : TypeId × Value → H) :
    ReturnsInHanded {} Try.checked os 8 .any (Rows.fnExactWithoutPumpSpec.pre6 enc Try.prog Try.f8 Rows.fnExactWithoutPumpRow.domain false) (Rows.fnExactWithoutPumpSpec.post enc Try.prog Try.f8 false true false false) := by
  refine returnsInHanded_of_change (C := Try.checked) own started (by kernel_rfl) Try.func8
    (ChangeSpec.witness6 (enc := enc) (C := Try.checked) false ⟨#[], #[.agg #[.int .i64 0, .int .i64 0, .int .i64 0, .slice none 0 0, .slice none 0 0], .int .i64 0], []⟩ 8 (by kernel_rfl) (by kernel_rfl) (by kernel_rfl) (by kernel_rfl)) ?_
  intro W base args ds gs before hval hW _ _
  exact FnExactWithoutPump_contract H enc W base args ds gs before hval hW

/-- The given statement. -/
theorem FnExactWithoutPump_holds : Rows.FnExactWithoutPumpSaid :=
  OpenClaim.holds_of_wide 8 Try.f8 rfl rfl rfl rfl rfl rfl rfl ⟨rfl, rfl, rfl, rfl, rfl⟩ rfl rfl rfl rfl rfl (by kernel_rfl) Try.func8 (by kernel_rfl)
    (of_decide_eq_true (by kernel_rfl)) (by unfold Func.isWrapper; first | (rw [if_pos (by decide +kernel)]; kernel_rfl) | (rw [if_neg (by decide +kernel)]; exact ⟨rfl, rfl⟩))
    (fun os started H enc _ => FnExactWithoutPump_lifted os started H enc)
#print axioms FnExactWithoutPump_holds

end Go.Proofs.Ytpaclngjmdacjaa
