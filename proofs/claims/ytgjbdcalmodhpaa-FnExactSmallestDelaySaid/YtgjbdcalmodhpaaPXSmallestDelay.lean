/- Proved here, of the given program, for every input: FnExactSmallestDelay: The program's SmallestDelay returns what the reference's returns, for all arguments. Conditions: none. -/
import Derived.Test.YtgjbdcalmodhpaaLift2
import Derived.Test.YtgjbdcalmodhpaaL5
namespace Go.Proofs.Ytgjbdcalmodhpaa
set_option linter.unusedSimpArgs false
set_option linter.unusedVariables false
open Go.RowKit Go.ChangeShapes Go.WideShapes Go.ChangeAt Go.Joins

theorem FnExactSmallestDelay_contract (H : Type) (enc : TypeId × Value → H) (W : World) (base : Nat) (args : Array Value) (ds gs : List (DataW H)) (before : List MemPlace)
    (hval : ∀ (j : Nat) t v, Try.f7.params[j]? = some t → args[j]? = some v → Value.okWide Try.prog W .any base t v)
    (hW : DataW.Whole enc Try.prog Try.f7.params.toList Rows.fnExactSmallestDelaySpec.vars false W args.toList ds gs before) :
    Calls Try.prog 7 args W fun e W' => ∃ v, e = .returned v ∧ Rows.fnExactSmallestDelaySpec.post enc Try.prog Try.f7 false true false false W args v W' := by
  have hW' := hW
  obtain ⟨p, q, hA, hV, hbef, hfz, hnd⟩ := hW
  have hA' : DataW.TrodAll enc Try.prog W 0 (fun _ => true) true Try.f7.params.toList args.toList ds p := hA
  rw [Try.params7] at hA'
  rw [Try.params7] at hval
  obtain ⟨v0, vs0, d0, ds0, p0, q0, hargs, rfl, rfl, h0, r0⟩ := trodAll_cons hA'
  obtain ⟨v1, vs1, d1, ds1, p1, q1, rfl, rfl, rfl, h1, r1⟩ := trodAll_cons r0
  obtain ⟨v2, vs2, d2, ds2, p2, q2, rfl, rfl, rfl, h2, r2⟩ := trodAll_cons r1
  obtain ⟨rfl, rfl, rfl⟩ := trodAll_nil r2
  obtain rfl : args = #[v0, v1, v2] := by cases args; simp_all
  obtain ⟨rfl, rfl⟩ := trodVars_none hV
  obtain ⟨A_xs, cap_xs, xs, rfl, hr_xs, hl_xs⟩ := open_rows Try.underlying29 (show Try.prog.cellsOf 23 = 4 by kernel_rfl) cPas_len (by decide) el_Pas_23 (hval 0 29 v0 rfl rfl) h0
  unfold maxLen at hl_xs
  obtain ⟨c1_0, c1_1, c1_2, c1_3, y1_0, y1_1, y1_2, y1_3, m1, rfl, rfl, rfl, hy1_0, hy1_1, hy1_2, hy1_3⟩ := open_agg4 Try.underlying23 (by kernel_rfl) (show Try.prog.cellsOf 23 = 4 by kernel_rfl) (hval 1 23 v1 rfl rfl) h1
  obtain ⟨i, e1_0, rfl, wf1_0⟩ := DataW.trod_int Try.underlying3 hy1_0
  obtain ⟨d, e1_1, rfl⟩ := DataW.trod_bool Try.underlying4 hy1_1
  obtain ⟨a, e1_2, rfl, wf1_2⟩ := DataW.trod_int Try.underlying3 hy1_2
  obtain ⟨b, e1_3, rfl, wf1_3⟩ := DataW.trod_int Try.underlying3 hy1_3
  simp at e1_0 e1_1 e1_2 e1_3
  subst e1_0 e1_1 e1_2 e1_3
  obtain ⟨g, rfl, rfl, rfl, w2⟩ := open_int Try.underlying3 (hval 2 3 v2 rfl rfl) h2
  refine (c_laws_FnExactSmallestDelay A_xs xs cap_xs i d a b g W hr_xs (by omega)).mono fun e W' ⟨he, hb⟩ => ?_
  exact ⟨_, he, law_post laidOut rfl Try.underlying4 rfl rfl rfl rfl (by kernel_rfl) hW' hA (by simpa using hbef) hb⟩

set_option maxRecDepth 100000 in
theorem FnExactSmallestDelay_lifted (os : Os) (started : os.Started) (H : Type) (enc : TypeId × Value → H) :
    ReturnsInHanded {} Try.checked os 7 .any (Rows.fnExactSmallestDelaySpec.pre6 enc Try.prog Try.f7 Rows.fnExactSmallestDelayRow.domain false) (Rows.fnExactSmallestDelaySpec.post enc Try.prog Try.f7 false true false false) := by
  refine returnsInHanded_of_change (C := Try.checked) own started (by kernel_rfl) Try.func7
    (ChangeSpec.witness6 (enc := enc) (C := Try.checked) false ⟨#[], #[.slice none 0 0, .agg #[.int .i64 0, .bool false, .int .i64 0, .int .i64 0], .int .i64 0], []⟩ 8 (by kernel_rfl) (by kernel_rfl) (by kernel_rfl) (by kernel_rfl)) ?_
  intro W base args ds gs before hval hW _ _
  exact FnExactSmallestDelay_contract H enc W base args ds gs before hval hW

/-- The given statement. -/
theorem FnExactSmallestDelay_holds : Rows.FnExactSmallestDelaySaid :=
  OpenClaim.holds_of_wide 7 Try.f7 rfl rfl rfl rfl rfl rfl rfl ⟨rfl, rfl, rfl, rfl, rfl⟩ rfl rfl rfl rfl rfl (by kernel_rfl) Try.func7 (by kernel_rfl)
    (of_decide_eq_true (by kernel_rfl)) (by unfold Func.isWrapper; first | (rw [if_pos (by decide +kernel)]; kernel_rfl) | (rw [if_neg (by decide +kernel)]; exact ⟨rfl, rfl⟩))
    (fun os started H enc _ => FnExactSmallestDelay_lifted os started H enc)
#print axioms FnExactSmallestDelay_holds

end Go.Proofs.Ytgjbdcalmodhpaa
