import Derived.Test.YtfipmalomhflgaaQS02
import Derived.Test.YtfipmalomhflgaaQS03
import Derived.Deep.Slices
namespace Go.Proofs.Ytfipmalomhflgaa
set_option linter.unusedSimpArgs false
set_option linter.unusedVariables false
open Go.RowKit Go.ChangeShapes Go.WideShapes Go.ChangeAt Go.Joins

section
variable {H : Type} {enc : TypeId × Value → H} {P : Program} {w : World} {spare : Nat → Bool} {held : Bool}
/-- an argument that is a slice of rows: it reads as a list -/
theorem open_rows {α : Type} [Inhabited α] {cf : α → List Value} {sz : Nat} {t e : TypeId} {base b0 : Nat} {r : Reach} {v : Value} {d : DataW H} {p : List MemPlace} (ht : P.underlying t = some (.slice e)) (hC : P.cellsOf e = sz) (hsz : ∀ a, (cf a).length = sz) (hpos : 0 < sz)
    (hel : ∀ n cs x, DataW.trod enc P w base spare held n e cs = some x → ∃ a, cs = cf a)
    (hv : Value.okWide P w r b0 t v) (h : DataW.Trod enc P w base spare held t v d p) :
    ∃ (A : Option Addr) (cap : Nat) (xs : List α), v = .slice A xs.length cap ∧ Rds cf sz w A xs ∧ xs.length ≤ maxLen := by
  obtain ⟨A, len, cap, rfl⟩ := okWide_slice ht hv
  obtain ⟨fuel, hf⟩ := h
  rcases Go.Deep.open_slice ht hf with ⟨hcs, _⟩ | ⟨a, len', cap', m, n, D, Pl, hcs, hb, hl, hm, hmm, _, hx⟩
  · simp only [Value.cells] at hcs
    obtain ⟨rfl, rfl, rfl⟩ : A = none ∧ len = 0 ∧ cap = 0 := by simpa using hcs
    exact ⟨none, 0, [], rfl, Rds.nil, Nat.zero_le _⟩
  · simp only [Value.cells] at hcs
    obtain ⟨rfl, rfl, rfl⟩ : A = some a ∧ len = len' ∧ cap = cap' := by simpa using hcs
    have hmle : len ≤ m := by rw [hmm]; split <;> omega
    rw [hC] at hx
    obtain ⟨f, hf⟩ := Go.Deep.choose_lt (α := α) (n := len) (p := fun i x => w.cells? base (a.add (i * sz)) sz = some (cf x)) (fun i hi => by
      obtain ⟨cs', h1, h2⟩ := hx i (by omega)
      obtain ⟨y, rfl⟩ := hel _ _ _ h2
      exact ⟨y, h1⟩)
    refine ⟨some a, cap, (List.range len).map f, by simp, ?_, by simp; omega⟩
    intro i x hxi
    have hi : i < len := by
      rcases Nat.lt_or_ge i len with h | h
      · exact h
      · rw [List.getElem?_eq_none (by simpa using h)] at hxi; cases hxi
    simp only [List.getElem?_map, List.getElem?_range hi, Option.map_some, Option.some.injEq] at hxi
    subst hxi
    obtain ⟨_, _, hat⟩ := World.cells?_some (hf i hi)
    have cell : ∀ j u, (cf (f i))[j]? = some u → w.cell? ((a.add (i * sz)).add j) = some u := fun j u hu => by
      rw [hat j (lt_of_cf hsz hu)]; exact hu
    obtain ⟨u0, hu0⟩ : ∃ u, (cf (f i))[0]? = some u := ⟨_, List.getElem?_eq_getElem (by rw [hsz]; exact hpos)⟩
    have c0 := cell 0 u0 hu0
    have hsp : a.spot = none := by
      unfold Addr.add at c0
      by_cases h1 : i * sz = 0
      · simp only [h1, if_true] at c0
        unfold World.cell? at c0
        split at c0
        · split at c0
          · cases c0
          · rename_i hs; simpa using hs
        · cases c0
      · have hi0 : 0 < i := by
          rcases Nat.eq_zero_or_pos i with h | h
          · exact absurd (by rw [h, Nat.zero_mul]) h1
          · exact h
        obtain ⟨_, _, hat0⟩ := World.cells?_some (hf 0 (by omega))
        have := hat0 0 hpos
        obtain ⟨u1, hu1⟩ : ∃ u, (cf (f 0))[0]? = some u := ⟨_, List.getElem?_eq_getElem (by rw [hsz]; exact hpos)⟩
        rw [hu1] at this
        simp only [Nat.zero_mul, Addr.add, if_true] at this
        unfold World.cell? at this
        split at this
        · split at this
          · cases this
          · rename_i hs; simpa using hs
        · cases this
    have spell : ∀ j, (a.add (i * sz)).add j = ⟨a.block, a.off + i * sz + j, none⟩ := fun j => by
      obtain ⟨ab, ao, asp⟩ := a
      subst hsp
      unfold Addr.add
      by_cases h1 : i * sz = 0 <;> by_cases h2 : j = 0 <;> simp [h1, h2]
    refine ⟨a.block, a.off, ?_, ?_, fun j u hu => ?_⟩
    · obtain ⟨ab, ao, asp⟩ := a
      subst hsp
      rfl
    · rw [spell] at c0
      exact World.block_lt_of_cell? w (⟨a.block, a.off + i * sz + 0, none⟩ : Addr) c0
    · rw [← spell]
      exact cell j u hu
end

set_option maxRecDepth 100000 in
theorem el_Ber_46 {H : Type} {enc : TypeId × Value → H} {w : World} {base : Nat} {spare : Nat → Bool} {held : Bool} : ∀ n cs x, DataW.trod enc Try.prog w base spare held n 46 cs = some x → ∃ a, cs = cBer a := by
  intro n cs x h
  obtain ⟨ys, n1, _, _, hlen, hy, hf⟩ := DataW.trod_struct Try.underlying46 h
  rw [show Try.prog.cellsOf 46 = 5 by kernel_rfl] at hlen
  match cs, hlen, ys, hy with
  | [c0, c1, c2, c3, c4], _, [y0, y1, y2, y3, y4], _ =>
    have h0 : DataW.trod enc Try.prog w base spare held n1 3 (([c0, c1, c2, c3, c4].drop 0).take (Try.prog.cellsOf 3)) = some y0 := hf 0 _ rfl
    rw [show Try.prog.cellsOf 3 = 1 by kernel_rfl] at h0
    simp only [List.drop, List.take] at h0
    obtain ⟨a0, e0, _, _⟩ := DataW.trod_int Try.underlying3 h0
    simp only [List.cons.injEq, and_true] at e0
    have h1 : DataW.trod enc Try.prog w base spare held n1 3 (([c0, c1, c2, c3, c4].drop 1).take (Try.prog.cellsOf 3)) = some y1 := hf 1 _ rfl
    rw [show Try.prog.cellsOf 3 = 1 by kernel_rfl] at h1
    simp only [List.drop, List.take] at h1
    obtain ⟨a1, e1, _, _⟩ := DataW.trod_int Try.underlying3 h1
    simp only [List.cons.injEq, and_true] at e1
    have h2 : DataW.trod enc Try.prog w base spare held n1 3 (([c0, c1, c2, c3, c4].drop 2).take (Try.prog.cellsOf 3)) = some y2 := hf 2 _ rfl
    rw [show Try.prog.cellsOf 3 = 1 by kernel_rfl] at h2
    simp only [List.drop, List.take] at h2
    obtain ⟨a2, e2, _, _⟩ := DataW.trod_int Try.underlying3 h2
    simp only [List.cons.injEq, and_true] at e2
    have h3 : DataW.trod enc Try.prog w base spare held n1 3 (([c0, c1, c2, c3, c4].drop 3).take (Try.prog.cellsOf 3)) = some y3 := hf 3 _ rfl
    rw [show Try.prog.cellsOf 3 = 1 by kernel_rfl] at h3
    simp only [List.drop, List.take] at h3
    obtain ⟨a3, e3, _, _⟩ := DataW.trod_int Try.underlying3 h3
    simp only [List.cons.injEq, and_true] at e3
    have h4 : DataW.trod enc Try.prog w base spare held n1 3 (([c0, c1, c2, c3, c4].drop 4).take (Try.prog.cellsOf 3)) = some y4 := hf 4 _ rfl
    rw [show Try.prog.cellsOf 3 = 1 by kernel_rfl] at h4
    simp only [List.drop, List.take] at h4
    obtain ⟨a4, e4, _, _⟩ := DataW.trod_int Try.underlying3 h4
    simp only [List.cons.injEq, and_true] at e4
    subst e0 e1 e2 e3 e4
    exact ⟨(a0, a1, a2, a3, a4), rfl⟩

end Go.Proofs.Ytfipmalomhflgaa
namespace Go.Proofs.Ytfipmalomhflgaa
set_option linter.unusedSimpArgs false
set_option linter.unusedVariables false
open Go.RowKit Go.ChangeShapes Go.WideShapes Go.ChangeAt Go.Joins

def cBs (x : {x : Int // 0 ≤ x ∧ x ≤ 255}) : List Value := cB x.1
instance : Inhabited {x : Int // 0 ≤ x ∧ x ≤ 255} := ⟨⟨0, by omega⟩⟩
theorem el_B {H : Type} {enc : TypeId × Value → H} {w : World} {base : Nat} {spare : Nat → Bool} {held : Bool} : ∀ n cs x, DataW.trod enc Try.prog w base spare held n 5 cs = some x → ∃ a, cs = cBs a := by
  intro n cs x h
  obtain ⟨a, e, _, wf⟩ := DataW.trod_int Try.underlying5 h
  have hb : 0 ≤ a ∧ a ≤ 255 := by
    have w1 : IntKind.u8.min = 0 := by decide
    have w2 : IntKind.u8.max = 255 := by decide
    simp only [Lit.wf, Bool.and_eq_true, decide_eq_true_eq, w1, w2] at wf
    exact wf
  exact ⟨⟨a, hb⟩, e⟩
set_option maxRecDepth 100000 in
theorem open_bytes {H : Type} {enc : TypeId × Value → H} {w : World} {spare : Nat → Bool} {held : Bool} {base b0 : Nat} {r : Reach} {v : Value} {d : DataW H} {p : List MemPlace}
    (hv : Value.okWide Try.prog w r b0 51 v) (h : DataW.Trod enc Try.prog w base spare held 51 v d p) :
    ∃ (A : Option Addr) (cap : Nat) (cs : List Int), v = .slice A cs.length cap ∧ Rds cB 1 w A cs ∧ Bytes cs ∧ cs.length ≤ maxLen := by
  obtain ⟨A, cap, zs, rfl, hr, hl⟩ := open_rows (cf := cBs) Try.underlying51 (show Try.prog.cellsOf 5 = 1 by kernel_rfl) (fun _ => rfl) (by decide) el_B hv h
  refine ⟨A, cap, zs.map (·.1), by simp, ?_, ?_, by simpa using hl⟩
  · intro i x hx
    rw [List.getElem?_map] at hx
    cases hz : zs[i]? with
    | none => rw [hz] at hx; cases hx
    | some z =>
      rw [hz] at hx
      simp only [Option.map_some, Option.some.injEq] at hx
      subst hx
      exact hr i z hz
  · intro k hk
    simp only [List.getElem_map]
    exact (zs[k]'(by simpa using hk)).2

end Go.Proofs.Ytfipmalomhflgaa
