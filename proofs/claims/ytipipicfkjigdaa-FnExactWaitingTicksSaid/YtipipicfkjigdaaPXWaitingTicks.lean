/- Proved here, of the given program, for every input: FnExactWaitingTicks: The program's WaitingTicks returns what the reference's returns, for all arguments. Conditions: none. -/
import Derived.Test.YtipipicfkjigdaaLift3
import Derived.Test.YtipipicfkjigdaaL5
namespace Go.Proofs.Ytipipicfkjigdaa
set_option linter.unusedSimpArgs false
set_option linter.unusedVariables false
open Go.RowKit Go.ChangeShapes Go.WideShapes Go.ChangeAt Go.Joins

set_option maxRecDepth 100000 in
theorem FnExactWaitingTicks_contract (H : Type) (enc : TypeId × Value → H) (W : World) (base : Nat) (args : Array Value) (ds gs : List (DataW H)) (before : List MemPlace)
    (hval : ∀ (j : Nat) t v, Try.f7.params[j]? = some t → args[j]? = some v → Value.okWide Try.prog W .any base t v)
    (hW : DataW.Whole enc Try.prog Try.f7.params.toList Rows.fnExactWaitingTicksSpec.vars false W args.toList ds gs before) :
    Calls Try.prog 7 args W fun e W' => ∃ v, e = .returned v ∧ Rows.fnExactWaitingTicksSpec.post enc Try.prog Try.f7 false true false false W args v W' := by
  have hW' := hW
  obtain ⟨p, q, hA, hV, hbef, hfz, hnd⟩ := hW
  have hA' : DataW.TrodAll enc Try.prog W 0 (fun _ => true) true Try.f7.params.toList args.toList ds p := hA
  rw [Try.params7] at hA'
  rw [Try.params7] at hval
  obtain ⟨v0, vs0, d0, ds0, p0, q0, hargs, rfl, rfl, h0, r0⟩ := trodAll_cons hA'
  obtain ⟨v1, vs1, d1, ds1, p1, q1, rfl, rfl, rfl, h1, r1⟩ := trodAll_cons r0
  obtain ⟨v2, vs2, d2, ds2, p2, q2, rfl, rfl, rfl, h2, r2⟩ := trodAll_cons r1
  obtain ⟨rfl, rfl, rfl⟩ := trodAll_nil r2
  obtain rfl : args = #[v0, v1, v2] := by cases args; simp_all
  obtain ⟨rfl, rfl⟩ := trodVars_none hV
  obtain ⟨A_ts, cap_ts, ts, rfl, hr_ts, hl_ts⟩ := open_rows Try.underlying22 (show Try.prog.cellsOf 64 = 3 by kernel_rfl) cTug_len (by decide) el_Tug_64 (hval 0 22 v0 rfl rfl) h0
  unfold maxLen at hl_ts
  obtain ⟨A_js, cap_js, js, rfl, hr_js, hl_js⟩ := open_rows Try.underlying29 (show Try.prog.cellsOf 37 = 5 by kernel_rfl) cJob_len (by decide) el_Job_37 (hval 1 29 v1 rfl rfl) h1
  unfold maxLen at hl_js
  obtain ⟨A_who, cap_who, who, rfl, hr_who, hl_who⟩ := open_rows Try.underlying43 (show Try.prog.cellsOf 3 = 1 by kernel_rfl) cIn_len (by decide) el_In_3 (hval 2 43 v2 rfl rfl) h2
  unfold maxLen at hl_who
  refine (c_laws_FnExactWaitingTicks A_ts ts cap_ts A_js js cap_js A_who who cap_who W hr_ts (by omega) hr_js (by omega) hr_who (by omega)).mono fun e W' ⟨he, hb⟩ => ?_
  exact ⟨_, he, law_post laidOut rfl Try.underlying4 rfl rfl rfl rfl (by kernel_rfl) hW' hA (by simpa using hbef) hb⟩

set_option maxRecDepth 100000 in
theorem FnExactWaitingTicks_lifted (os : Os) (started : os.Started) (H : Type) (enc : TypeId × Value → H) :
    ReturnsInHanded {} Try.checked os 7 .any (Rows.fnExactWaitingTicksSpec.pre6 enc Try.prog Try.f7 Rows.fnExactWaitingTicksRow.domain false) (Rows.fnExactWaitingTicksSpec.post enc Try.prog Try.f7 false true false false) := by
  refine returnsInHanded_of_change (C := Try.checked) own started (by kernel_rfl) Try.func7
    (ChangeSpec.witness6 (enc := enc) (C := Try.checked) false ⟨#[], #[.slice none 0 0, .slice none 0 0, .slice none 0 0], []⟩ 8 (by kernel_rfl) (by kernel_rfl) (by kernel_rfl) (by kernel_rfl)) ?_
  intro W base args ds gs before hval hW _ _
  exact FnExactWaitingTicks_contract H enc W base args ds gs before hval hW

/-- The given statement. -/
theorem FnExactWaitingTicks_holds : Rows.FnExactWaitingTicksSaid :=
  OpenClaim.holds_of_wide 7 Try.f7 rfl rfl rfl rfl rfl rfl rfl ⟨rfl, rfl, rfl, rfl, rfl⟩ rfl rfl rfl rfl rfl (by kernel_rfl) Try.func7 (by kernel_rfl)
    (of_decide_eq_true (by kernel_rfl)) (by unfold Func.isWrapper; first | (rw [if_pos (by decide +kernel)]; kernel_rfl) | (rw [if_neg (by decide +kernel)]; exact ⟨rfl, rfl⟩))
    (fun os started H enc _ => FnExactWaitingTicks_lifted os started H enc)
#print axioms FnExactWaitingTicks_holds

end Go.Proofs.Ytipipicfkjigdaa
