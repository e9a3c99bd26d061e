import Derived.Test.YtpaclngjmdacjaaQP03
import Derived.Laws.IdiomCopy
namespace Go.Proofs.Ytpaclngjmdacjaa
set_option linter.unusedSimpArgs false
set_option linter.unusedVariables false
open Go.RowKit

section
variable {α : Type} {cf : α → List Value} {sz : Nat} {T : TypeId} {w w' : World} {A : Option Addr} {xs : List α} {g cap B : Nat}
theorem setCells_stores (g : Nat) : ∀ (vs : List Value) (o : Nat) (w : World), w.setCells g o vs = stores w g o vs
  | [], _, _ => rfl
  | v :: vs, o, w => setCells_stores g vs (o + 1) (w.setCell ⟨g, o, none⟩ v)
/-- 'copy' at elements of k cells: all is read before anything is written. -/
theorem run_copy_k {P : Program} (w : World) (dT sT ty elem : TypeId) (b o dLen dCap : Nat) (a : Addr) (sLen sCap k : Nat) (cs : List Value)
    (hu : P.underlying dT = some (.slice elem)) (hs : (P.info? elem).map (·.size) = some k) (hn : cs.length = Nat.min sLen dLen * k)
    (hsrc : ∀ j v, cs[j]? = some v → w.cell? (a.add j) = some v) (hc : ∀ j, j < cs.length → (w.cell? ⟨b, o + j, none⟩).isSome = true) (hf : ∀ j, j < cs.length → w.frozen? ⟨b, o + j, none⟩ = false) (h1 : ∀ v ∈ cs, v.oneCell' = true) :
    (Builtin.copy_ #[dT, sT] ty #[.slice (some ⟨b, o, none⟩) dLen dCap, .slice (some a) sLen sCap]).run P w = .ok (goInt (Nat.min sLen dLen)) (w.setCells b o cs) := by
  have hl := run_loadCells_list (P := P) w a cs hsrc
  have hst := run_storeCells_cells (P := P) b o cs 0 w (by simpa using hc) (by simpa using hf) h1
  cases hq : P.info? elem with
  | none => simp [hq] at hs
  | some i =>
    have hi : i.size = k := by simpa [hq] using hs
    simp [Builtin.copy_, run_underlying hu, Builtin.lenOf, Builtin.firstCells, Go.sizeOf, typeInfo, hq, hi, ← hn, hl, hst]
theorem OwnS.flat (hcf : ∀ x, (cf x).length = sz) (hsz : 0 < sz) (h : OwnS cf sz T w g cap xs) : ∃ cur : Array Value, w.heap[g]? = some (.cells cur T (0, 0)) ∧ cur.size = cap * sz ∧ xs.length ≤ cap ∧ cap ≤ maxLen ∧ ∀ p, p < xs.length * sz → cur[p]? = (xs.flatMap cf)[p]? := by
  obtain ⟨cur, h1, h2, h3, h4, h5⟩ := h
  refine ⟨cur, h1, h2, h3, h4, fun p hp => ?_⟩
  have hi : p / sz < xs.length := Nat.div_lt_of_lt_mul (by rw [Nat.mul_comm]; exact hp)
  have hj : p % sz < sz := Nat.mod_lt _ hsz
  have e : p / sz * sz + p % sz = p := by rw [Nat.mul_comm]; exact Nat.div_add_mod p sz
  have hx : xs[p / sz]? = some xs[p / sz] := List.getElem?_eq_getElem hi
  have hv : (cf xs[p / sz])[p % sz]? = some ((cf xs[p / sz])[p % sz]'(by rw [hcf]; exact hj)) := List.getElem?_eq_getElem _
  have h6 := h5 _ _ hx _ _ hv
  have h7 := flatMap_at hcf xs _ _ _ hx hj
  rw [e] at h6 h7
  rw [h6, h7, hv]
/-- a row that holds what stood ahead of i, y, what stood from i on -/
theorem OwnS.of_ins {y : α} {i : Nat} {cur : Array Value} (hcf : ∀ x, (cf x).length = sz) (hi : i ≤ xs.length) (h1 : w.heap[g]? = some (.cells cur T (0, 0))) (h2 : cur.size = cap * sz) (h3 : xs.length + 1 ≤ cap) (h4 : cap ≤ maxLen)
    (ha : ∀ p, p < i * sz → cur[p]? = (xs.flatMap cf)[p]?) (hb : ∀ p, p < sz → cur[i * sz + p]? = (cf y)[p]?) (hc : ∀ p, i * sz + p < xs.length * sz → cur[i * sz + sz + p]? = (xs.flatMap cf)[i * sz + p]?) : OwnS cf sz T w g cap (xs.take i ++ y :: xs.drop i) := by
  refine ⟨cur, h1, h2, by simp; omega, h4, fun q x hx j v hv => ?_⟩
  have hj := lt_of_cf hcf hv
  have htl : (xs.take i).length = i := by rw [List.length_take]; omega
  rw [List.getElem?_append, htl] at hx
  split at hx
  · rename_i hq
    rw [List.getElem?_take, if_pos hq] at hx
    have : (q + 1) * sz ≤ i * sz := Nat.mul_le_mul_right sz hq
    rw [Nat.succ_mul] at this
    rw [ha _ (by omega), flatMap_at hcf xs q x j hx hj]
    exact hv
  · rename_i hq
    rcases Nat.lt_or_ge i q with hlt | hge
    · obtain ⟨d, rfl⟩ : ∃ d, q = i + 1 + d := ⟨q - i - 1, by omega⟩
      rw [show i + 1 + d - i = d + 1 by omega, List.getElem?_cons_succ, List.getElem?_drop] at hx
      have hlt' : i + d < xs.length := by
        rcases Nat.lt_or_ge (i + d) xs.length with h | h
        · exact h
        · rw [List.getElem?_eq_none h] at hx; cases hx
      have hm : (i + d + 1) * sz ≤ xs.length * sz := Nat.mul_le_mul_right sz hlt'
      rw [Nat.succ_mul, Nat.add_mul] at hm
      have e1 : (i + 1 + d) * sz + j = i * sz + sz + (d * sz + j) := by rw [Nat.add_mul, Nat.succ_mul]; omega
      have e2 : i * sz + (d * sz + j) = (i + d) * sz + j := by rw [Nat.add_mul]; omega
      rw [e1, hc _ (by omega), e2, flatMap_at hcf xs (i + d) x j hx hj]
      exact hv
    · have : q = i := by omega
      subst this
      simp only [Nat.sub_self, List.getElem?_cons_zero, Option.some.injEq] at hx
      subst hx
      rw [hb j hj]
      exact hv
theorem grown_stores {a : World} : ∀ (vs : List Value) (w : World) (o : Nat), a.grownBy w (some g) → a.grownBy (stores w g o vs) (some g)
  | [], _, _, h => h
  | _ :: vs, _, _, h => grown_stores vs _ _ (grown_set h)
theorem grown_drew0 (w : World) (row : Option Nat) : w.grownBy w.drew row := ⟨rfl, rfl, rfl, Nat.le_refl _, fun _ _ _ => rfl⟩
end
theorem cellDrew (w : World) (x : Addr) : w.drew.cell? x = w.cell? x := rfl
theorem frozDrew (w : World) (x : Addr) : w.drew.frozen? x = w.frozen? x := rfl
theorem heapDrewAt {w : World} {i : Nat} {o : Option Obj} (h : w.heap[i]? = o) : w.drew.heap[i]? = o := h

section
variable {α : Type} {cf : α → List Value} {sz : Nat} {T : TypeId} {w w' : World} {A : Option Addr} {xs : List α} {g cap B : Nat}
/-- a row that holds what stood ahead of i, what stood from i + 1 on -/
theorem OwnS.of_del {i : Nat} {cur : Array Value} (hcf : ∀ x, (cf x).length = sz) (hi : i < xs.length) (h1 : w.heap[g]? = some (.cells cur T (0, 0))) (h2 : cur.size = cap * sz) (h3 : xs.length ≤ cap) (h4 : cap ≤ maxLen)
    (ha : ∀ p, p < i * sz → cur[p]? = (xs.flatMap cf)[p]?) (hc : ∀ p, i * sz + sz + p < xs.length * sz → cur[i * sz + p]? = (xs.flatMap cf)[i * sz + sz + p]?) : OwnS cf sz T w g cap (xs.take i ++ xs.drop (i + 1)) := by
  refine ⟨cur, h1, h2, by simp; omega, h4, fun q x hx j v hv => ?_⟩
  have hj := lt_of_cf hcf hv
  have htl : (xs.take i).length = i := by rw [List.length_take]; omega
  rw [List.getElem?_append, htl] at hx
  split at hx
  · rename_i hq
    rw [List.getElem?_take, if_pos hq] at hx
    have : (q + 1) * sz ≤ i * sz := Nat.mul_le_mul_right sz hq
    rw [Nat.succ_mul] at this
    rw [ha _ (by omega), flatMap_at hcf xs q x j hx hj]
    exact hv
  · rename_i hq
    obtain ⟨d, rfl⟩ : ∃ d, q = i + d := ⟨q - i, by omega⟩
    rw [show i + d - i = d by omega, List.getElem?_drop] at hx
    have hlt' : i + 1 + d < xs.length := by
      rcases Nat.lt_or_ge (i + 1 + d) xs.length with h | h
      · exact h
      · rw [List.getElem?_eq_none h] at hx; cases hx
    have hm : (i + 1 + d + 1) * sz ≤ xs.length * sz := Nat.mul_le_mul_right sz hlt'
    rw [Nat.succ_mul, Nat.add_mul, Nat.succ_mul] at hm
    have e1 : (i + d) * sz + j = i * sz + (d * sz + j) := by rw [Nat.add_mul]; omega
    have e2 : i * sz + sz + (d * sz + j) = (i + 1 + d) * sz + j := by rw [Nat.add_mul, Nat.succ_mul]; omega
    rw [e1, hc _ (by omega), e2, flatMap_at hcf xs (i + 1 + d) x j hx hj]
    exact hv
/-- 'clear(s)' at elements of several cells -/
theorem run_clear_k {P : Program} (w : World) (t e ty : TypeId) (z : Value) (ht : P.underlying t = some (.slice e)) (hv : ∀ w, (zeroValue e).run P w = .ok z w) (b o n c : Nat) (hn : 0 < n) (h1 : ∀ v ∈ (Builtin.zeroCells z.cells n).toList, v.oneCell' = true)
    (hc : ∀ j, j < (Builtin.zeroCells z.cells n).toList.length → (w.cell? ⟨b, o + j, none⟩).isSome = true) (hf : ∀ j, j < (Builtin.zeroCells z.cells n).toList.length → w.frozen? ⟨b, o + j, none⟩ = false) :
    (Builtin.clear_ #[t] ty #[.slice (some ⟨b, o, none⟩) n c]).run P w = .ok (.tuple #[]) (w.setCells b o (Builtin.zeroCells z.cells n).toList) := by
  have hst := run_storeCells_cells (P := P) b o (Builtin.zeroCells z.cells n).toList 0 w (by simpa using hc) (by simpa using hf) h1
  simp only [Nat.add_zero] at hst
  obtain ⟨m, rfl⟩ : ∃ m, n = m + 1 := ⟨n - 1, by omega⟩
  simp [Builtin.clear_, run_underlying ht, hv, hst]
end

end Go.Proofs.Ytpaclngjmdacjaa
