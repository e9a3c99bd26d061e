import Derived.Test.YthlmeofjjmfpnaaLift2
import Derived.Test.YthlmeofjjmfpnaaCu
namespace Go.Proofs.Ythlmeofjjmfpnaa
set_option linter.unusedSimpArgs false
set_option linter.unusedVariables false
open Go.RowKit Go.ChangeShapes Go.WideShapes Go.ChangeAt Go.Joins

def cBs (x : {x : Int // 0 ≤ x ∧ x ≤ 255}) : List Value := cB x.1
instance : Inhabited {x : Int // 0 ≤ x ∧ x ≤ 255} := ⟨⟨0, by omega⟩⟩
theorem el_B {H : Type} {enc : TypeId × Value → H} {w : World} {base : Nat} {spare : Nat → Bool} {held : Bool} : ∀ n cs x, DataW.trod enc Try.prog w base spare held n 5 cs = some x → ∃ a, cs = cBs a := by
  intro n cs x h
  obtain ⟨a, e, _, wf⟩ := DataW.trod_int Try.underlying5 h
  have hb : 0 ≤ a ∧ a ≤ 255 := by
    have w1 : IntKind.u8.min = 0 := by decide
    have w2 : IntKind.u8.max = 255 := by decide
    simp only [Lit.wf, Bool.and_eq_true, decide_eq_true_eq, w1, w2] at wf
    exact wf
  exact ⟨⟨a, hb⟩, e⟩
theorem open_bytes {H : Type} {enc : TypeId × Value → H} {w : World} {spare : Nat → Bool} {held : Bool} {base b0 : Nat} {r : Reach} {v : Value} {d : DataW H} {p : List MemPlace}
    (hv : Value.okWide Try.prog w r b0 59 v) (h : DataW.Trod enc Try.prog w base spare held 59 v d p) :
    ∃ (A : Option Addr) (cap : Nat) (cs : List Int), v = .slice A cs.length cap ∧ Rds cB 1 w A cs ∧ Bytes cs ∧ cs.length ≤ maxLen := by
  obtain ⟨A, cap, zs, rfl, hr, hl⟩ := open_rows (cf := cBs) Try.underlying59 (show Try.prog.cellsOf 5 = 1 by kernel_rfl) (fun _ => rfl) (by decide) el_B hv h
  refine ⟨A, cap, zs.map (·.1), by simp, ?_, ?_, by simpa using hl⟩
  · intro i x hx
    rw [List.getElem?_map] at hx
    cases hz : zs[i]? with
    | none => rw [hz] at hx; cases hx
    | some z =>
      rw [hz] at hx
      simp only [Option.map_some, Option.some.injEq] at hx
      subst hx
      exact hr i z hz
  · intro k hk
    simp only [List.getElem_map]
    exact (zs[k]'(by simpa using hk)).2

end Go.Proofs.Ythlmeofjjmfpnaa
