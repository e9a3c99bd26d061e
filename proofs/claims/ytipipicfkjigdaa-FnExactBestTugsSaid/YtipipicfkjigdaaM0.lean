import Derived.Test.YtipipicfkjigdaaSl
import Derived.Test.YtipipicfkjigdaaBase
import Derived.Maps.OwnOps
import Derived.Maps.Views
namespace Go.Proofs.Ytipipicfkjigdaa
set_option linter.unusedSimpArgs false
set_option linter.unusedVariables false
open Go.RowKit

open Go.Maps Go.WideShapes
theorem lawI : Keyed Try.prog 3 := int_keyed Try.underlying3
theorem zeroI (w : World) : (zeroValue 3).run Try.prog w = .ok (.int .i64 0) w := by kernel_rfl
/-- block b is a map from numbers to numbers, of at most n entries, that reads as the function f (0 where there is no entry) -/
def MapI (w : World) (b n : Nat) (f : Int → Int) : Prop :=
  ∃ D : DataW Unit, w.ownsMap Try.prog 3 (plainElem Try.prog 3) b n D ∧ IsMap D ∧ ∀ i : Int, (Lit.int .i64 i).wf = true → D.atKey (.int .i64 i) (.lit (.int .i64 0)) = .lit (.int .i64 (f i))
theorem wr_id {x : Int} (h : -9223372036854775808 ≤ x ∧ x ≤ 9223372036854775807) : IntKind.i64.wrap x = x := by
  rw [IntKind.wrap_i64]
  omega
section
variable {w w' : World} {b n : Nat} {f : Int → Int}
theorem MapI.made : MapI (w.alloc (.map #[] 0)) w.heap.size 0 (fun _ => 0) := ⟨_, World.ownsMap_made _ _ _ _, isMap_empty, fun i _ => rfl⟩
theorem MapI.lt (h : MapI w b n f) : b < w.heap.size := by
  obtain ⟨D, h1, _⟩ := h
  exact h1.lt
theorem MapI.block (h : MapI w b n f) (hb : w'.heap[b]? = w.heap[b]?) : MapI w' b n f := by
  obtain ⟨D, ⟨es, clock, e1, e2⟩, h2⟩ := h
  exact ⟨D, ⟨es, clock, hb.trans e1, e2⟩, h2⟩
theorem MapI.below (h : MapI w b n f) (hb : Below w.heap.size w w') : MapI w' b n f := h.block (hb.block b h.lt)
theorem MapI.kept {row : Option Nat} (h : MapI w b n f) (hg : w.grownBy w' row) (hne : some b ≠ row) : MapI w' b n f := h.block (hg.block b h.lt hne)
theorem MapI.set (h : MapI w b n f) {g o : Nat} {u : Value} (hne : b ≠ g) : MapI (w.setCell ⟨g, o, none⟩ u) b n f := h.block (Below.heap_setCell _ _ _ _ hne)
theorem MapI.alloc (h : MapI w b n f) (o : Obj) : MapI (w.alloc o) b n f := h.block (Below.heap_alloc _ _ _ h.lt)
theorem MapI.drew (h : MapI w b n f) : MapI w.drew b n f := h.block rfl
theorem MapI.congr {f' : Int → Int} (h : MapI w b n f) (e : ∀ i, f i = f' i) : MapI w b n f' := by
  obtain ⟨D, h1, h2, h3⟩ := h
  exact ⟨D, h1, h2, fun i hi => by rw [h3 i hi, e]⟩
theorem MapI.run (h : MapI w b n f) {i : Int} (hi : (Lit.int .i64 i).wf = true) : (Instr.lookup 74 (.map (some b)) (.int .i64 i) false).run Try.prog w = .ok (.int .i64 (f i)) w := by
  obtain ⟨D, h1, h2, h3⟩ := h
  obtain ⟨c, hrun, hat, _⟩ := h1.lookup_int lawI Try.underlying74 Try.underlying3 (zeroI _) (keyOf_int_mk Try.underlying3 hi)
  rw [h3 i hi] at hat
  simp only [DataW.lit.injEq, Lit.int.injEq, true_and] at hat
  rw [hrun, hat]
theorem wpList_lookI {ops : Array Oper} {rest : List Oper} {o : Oper} {a : Act} {Q : Exit → Act → World → Prop} (h : MapI w b n f) (hg : o.guard = none) (m x : Operand) (hop : o.op = Op.lookup 74 m x false)
    (hm : a.eval m = .map (some b)) (i : Int) (hx : a.eval x = .int .i64 i) (hi : (Lit.int .i64 i).wf = true) (hK : wpList Try.prog ops Q rest (a.put o.dst (.int .i64 (f i))) w) : wpList Try.prog ops Q (o :: rest) a w := by
  refine wpList_plain hg fun K' hK' => ?_
  unfold Oper.wp
  simp [execOp, hop, hm, hx, h.run hi, Result.andThen]
  exact hK' _ _ hK
theorem wpList_lookJ {ops : Array Oper} {rest : List Oper} {o : Oper} {a : Act} {Q : Exit → Act → World → Prop} (h : MapI w b n f) (hg : o.guard = none) (m x : Operand) (hop : o.op = Op.lookup 74 m x false)
    (hm : a.eval m = .map (some b)) (i c : Int) (hc : f i = c) (hx : a.eval x = .int .i64 i) (hi : (Lit.int .i64 i).wf = true) (hK : wpList Try.prog ops Q rest (a.put o.dst (.int .i64 c)) w) : wpList Try.prog ops Q (o :: rest) a w := by
  subst hc
  exact wpList_lookI h hg m x hop hm i hx hi hK
theorem wpList_storeI {ops : Array Oper} {rest : List Oper} {o : Oper} {a : Act} {Q : Exit → Act → World → Prop} (h : MapI w b n f) (hg : o.guard = none) (m x v : Operand) (hop : o.op = Op.mapUpdate 74 m x v)
    (hm : a.eval m = .map (some b)) (hn : n < maxLen) (i u : Int) (hx : a.eval x = .int .i64 i) (hv : a.eval v = .int .i64 u) (hi : (Lit.int .i64 i).wf = true) (hu : (Lit.int .i64 u).wf = true)
    (hK : ∀ w', MapI w' b (n + 1) (fun j => if j = i then u else f j) → w.grownBy w' (some b) → wpList Try.prog ops Q rest (a.put o.dst undef) w') : wpList Try.prog ops Q (o :: rest) a w := by
  obtain ⟨D, h1, h2, h3⟩ := h
  refine wpList_mapUpdate_own w hg m x v _ hop _ _ lawI Try.underlying74 _ b n D hm h1 hn _ _ _ hx hv (keyOf_int_mk Try.underlying3 hi) _ [] (plainElem_int Try.underlying3 hu) fun w' r1 r2 => hK w' ⟨_, r1, h2.put _ _, fun j hj => ?_⟩ r2
  show _ = DataW.lit (.int .i64 (if j = i then u else f j))
  by_cases e : j = i
  · subst e
    rw [atKey_put_same h2 (lawI.key (keyOf_int_mk Try.underlying3 hi)), if_pos rfl]
  · rw [atKey_put_other (by simpa using e), if_neg e]
    exact h3 j hj
end

end Go.Proofs.Ytipipicfkjigdaa
