import Derived.Test.YtfipmalomhflgaaQY03
import Derived.Laws.IdiomCopy
import Derived.Lib.Overlaps
namespace Go.Proofs.Ytfipmalomhflgaa
set_option linter.unusedSimpArgs false
set_option linter.unusedVariables false
open Go.RowKit

section
variable {α : Type} {cf : α → List Value} {sz : Nat} {T : TypeId} {w w' : World} {A : Option Addr} {xs : List α} {g cap B : Nat}
theorem setCells_stores (g : Nat) : ∀ (vs : List Value) (o : Nat) (w : World), w.setCells g o vs = stores w g o vs
  | [], _, _ => rfl
  | v :: vs, o, w => setCells_stores g vs (o + 1) (w.setCell ⟨g, o, none⟩ v)
/-- 'copy' at elements of k cells: all is read before anything is written. -/
theorem run_copy_k {P : Program} (w : World) (dT sT ty elem : TypeId) (b o dLen dCap : Nat) (a : Addr) (sLen sCap k : Nat) (cs : List Value)
    (hu : P.underlying dT = some (.slice elem)) (hs : (P.info? elem).map (·.size) = some k) (hn : cs.length = Nat.min sLen dLen * k)
    (hsrc : ∀ j v, cs[j]? = some v → w.cell? (a.add j) = some v) (hc : ∀ j, j < cs.length → (w.cell? ⟨b, o + j, none⟩).isSome = true) (hf : ∀ j, j < cs.length → w.frozen? ⟨b, o + j, none⟩ = false) (h1 : ∀ v ∈ cs, v.oneCell' = true) :
    (Builtin.copy_ #[dT, sT] ty #[.slice (some ⟨b, o, none⟩) dLen dCap, .slice (some a) sLen sCap]).run P w = .ok (goInt (Nat.min sLen dLen)) (w.setCells b o cs) := by
  have hl := run_loadCells_list (P := P) w a cs hsrc
  have hst := run_storeCells_cells (P := P) b o cs 0 w (by simpa using hc) (by simpa using hf) h1
  cases hq : P.info? elem with
  | none => simp [hq] at hs
  | some i =>
    have hi : i.size = k := by simpa [hq] using hs
    simp [Builtin.copy_, run_underlying hu, Builtin.lenOf, Builtin.firstCells, Go.sizeOf, typeInfo, hq, hi, ← hn, hl, hst]
theorem OwnS.flat (hcf : ∀ x, (cf x).length = sz) (hsz : 0 < sz) (h : OwnS cf sz T w g cap xs) : ∃ cur : Array Value, w.heap[g]? = some (.cells cur T (0, 0)) ∧ cur.size = cap * sz ∧ xs.length ≤ cap ∧ cap ≤ maxLen ∧ ∀ p, p < xs.length * sz → cur[p]? = (xs.flatMap cf)[p]? := by
  obtain ⟨cur, h1, h2, h3, h4, h5⟩ := h
  refine ⟨cur, h1, h2, h3, h4, fun p hp => ?_⟩
  have hi : p / sz < xs.length := Nat.div_lt_of_lt_mul (by rw [Nat.mul_comm]; exact hp)
  have hj : p % sz < sz := Nat.mod_lt _ hsz
  have e : p / sz * sz + p % sz = p := by rw [Nat.mul_comm]; exact Nat.div_add_mod p sz
  have hx : xs[p / sz]? = some xs[p / sz] := List.getElem?_eq_getElem hi
  have hv : (cf xs[p / sz])[p % sz]? = some ((cf xs[p / sz])[p % sz]'(by rw [hcf]; exact hj)) := List.getElem?_eq_getElem _
  have h6 := h5 _ _ hx _ _ hv
  have h7 := flatMap_at hcf xs _ _ _ hx hj
  rw [e] at h6 h7
  rw [h6, h7, hv]
/-- a row that holds what stood ahead of i, y, what stood from i on -/
theorem OwnS.of_ins {y : α} {i : Nat} {cur : Array Value} (hcf : ∀ x, (cf x).length = sz) (hi : i ≤ xs.length) (h1 : w.heap[g]? = some (.cells cur T (0, 0))) (h2 : cur.size = cap * sz) (h3 : xs.length + 1 ≤ cap) (h4 : cap ≤ maxLen)
    (ha : ∀ p, p < i * sz → cur[p]? = (xs.flatMap cf)[p]?) (hb : ∀ p, p < sz → cur[i * sz + p]? = (cf y)[p]?) (hc : ∀ p, i * sz + p < xs.length * sz → cur[i * sz + sz + p]? = (xs.flatMap cf)[i * sz + p]?) : OwnS cf sz T w g cap (xs.take i ++ y :: xs.drop i) := by
  refine ⟨cur, h1, h2, by simp; omega, h4, fun q x hx j v hv => ?_⟩
  have hj := lt_of_cf hcf hv
  have htl : (xs.take i).length = i := by rw [List.length_take]; omega
  rw [List.getElem?_append, htl] at hx
  split at hx
  · rename_i hq
    rw [List.getElem?_take, if_pos hq] at hx
    have : (q + 1) * sz ≤ i * sz := Nat.mul_le_mul_right sz hq
    rw [Nat.succ_mul] at this
    rw [ha _ (by omega), flatMap_at hcf xs q x j hx hj]
    exact hv
  · rename_i hq
    rcases Nat.lt_or_ge i q with hlt | hge
    · obtain ⟨d, rfl⟩ : ∃ d, q = i + 1 + d := ⟨q - i - 1, by omega⟩
      rw [show i + 1 + d - i = d + 1 by omega, List.getElem?_cons_succ, List.getElem?_drop] at hx
      have hlt' : i + d < xs.length := by
        rcases Nat.lt_or_ge (i + d) xs.length with h | h
        · exact h
        · rw [List.getElem?_eq_none h] at hx; cases hx
      have hm : (i + d + 1) * sz ≤ xs.length * sz := Nat.mul_le_mul_right sz hlt'
      rw [Nat.succ_mul, Nat.add_mul] at hm
      have e1 : (i + 1 + d) * sz + j = i * sz + sz + (d * sz + j) := by rw [Nat.add_mul, Nat.succ_mul]; omega
      have e2 : i * sz + (d * sz + j) = (i + d) * sz + j := by rw [Nat.add_mul]; omega
      rw [e1, hc _ (by omega), e2, flatMap_at hcf xs (i + d) x j hx hj]
      exact hv
    · have : q = i := by omega
      subst this
      simp only [Nat.sub_self, List.getElem?_cons_zero, Option.some.injEq] at hx
      subst hx
      rw [hb j hj]
      exact hv
theorem grown_stores {a : World} : ∀ (vs : List Value) (w : World) (o : Nat), a.grownBy w (some g) → a.grownBy (stores w g o vs) (some g)
  | [], _, _, h => h
  | _ :: vs, _, _, h => grown_stores vs _ _ (grown_set h)
theorem grown_drew0 (w : World) (row : Option Nat) : w.grownBy w.drew row := ⟨rfl, rfl, rfl, Nat.le_refl _, fun _ _ _ => rfl⟩
theorem grown_of_below {row : Option Nat} (h : Below w.heap.size w w') : w.grownBy w' row := ⟨h.os, h.tape, h.output, h.size, fun i hi _ => h.block i hi⟩
end
theorem cellDrew (w : World) (x : Addr) : w.drew.cell? x = w.cell? x := rfl
theorem frozDrew (w : World) (x : Addr) : w.drew.frozen? x = w.frozen? x := rfl
theorem heapDrewAt {w : World} {i : Nat} {o : Option Obj} (h : w.heap[i]? = o) : w.drew.heap[i]? = o := h

end Go.Proofs.Ytfipmalomhflgaa
namespace Go.Proofs.Ytfipmalomhflgaa
set_option linter.unusedSimpArgs false
set_option linter.unusedVariables false
open Go.RowKit

def posI (f : Int) (xs : List (Int × Int × Int × Int × Int)) : Nat := (xs.takeWhile fun x => decide (x.1 < f)).length
theorem takeWhile_len {α : Type} {p : α → Bool} : ∀ {xs : List α} {k : Nat}, k ≤ xs.length → (∀ q (hq : q < xs.length), q < k → p xs[q] = true) → (∀ hk : k < xs.length, p xs[k] = false) → (xs.takeWhile p).length = k
  | [], k, hk, _, _ => by simp at hk; simp [hk]
  | x :: xs, 0, _, _, h2 => by
    have := h2 (by simp)
    simp at this
    simp [List.takeWhile_cons, this]
  | x :: xs, k + 1, hk, h1, h2 => by
    have h0 := h1 0 (by simp) (by omega)
    simp at h0
    rw [List.takeWhile_cons, if_pos h0, List.length_cons]
    congr 1
    refine takeWhile_len (by simpa using hk) (fun q hq hqk => ?_) (fun hk' => ?_)
    · exact h1 (q + 1) (by simp; omega) (by omega)
    · exact h2 (by simp; omega)
theorem posI_at {f : Int} {xs : List (Int × Int × Int × Int × Int)} {k : Nat} (hk : k ≤ xs.length) (h1 : ∀ q (hq : q < xs.length), q < k → xs[q].1 < f) (h2 : ∀ hk : k < xs.length, ¬ xs[k].1 < f) : posI f xs = k :=
  takeWhile_len hk (fun q hq hqk => decide_eq_true (h1 q hq hqk)) (fun hk' => decide_eq_false (h2 hk'))
def insI (xs : List (Int × Int × Int × Int × Int)) (y : Int × Int × Int × Int × Int) : List (Int × Int × Int × Int × Int) := xs.take (posI y.1 xs) ++ y :: xs.drop (posI y.1 xs)
theorem insI_len (xs : List (Int × Int × Int × Int × Int)) (y : Int × Int × Int × Int × Int) : (insI xs y).length = xs.length + 1 := by
  have : posI y.1 xs ≤ xs.length := (List.takeWhile_prefix _).length_le
  simp [insI]
  omega
def addV (q : Int) (xs : List (Int × Int × Int × Int × Int)) (y : Int × Int × Int × Int × Int) : List (Int × Int × Int × Int × Int) × Bool := if berV q xs = true ∧ berV q (insI xs y) = true then (insI xs y, true) else ([], false)
theorem addV_len (q : Int) (xs : List (Int × Int × Int × Int × Int)) (y : Int × Int × Int × Int × Int) : (addV q xs y).1.length ≤ 10 := by
  unfold addV
  split
  · rename_i h
    exact berV_len h.2
  · simp
theorem FreshA.newh {α : Type} {cf : α → List Value} {sz : Nat} {T : TypeId} {B g : Nat} {w : World} (hg : w.heap.size = g) (hB : B ≤ g) : FreshA cf sz T B (w.alloc (.cells #[] T)) (some ⟨g, 0, none⟩) 0 ([] : List α) := by
  subst hg
  exact .inr ⟨w.heap.size, rfl, hB, #[], heap_alloc_new _ _, by simp, by simp, by unfold maxLen; omega, fun i x h => by simp at h⟩
theorem heap_alloc_newg {w : World} {g : Nat} {o : Obj} (hg : g = w.heap.size) : (w.alloc o).heap[g]? = some o := by
  subst hg
  exact heap_alloc_new _ _
theorem heap_alloc2g {w : World} {g : Nat} {o1 o2 : Obj} (hg : g = w.heap.size) : ((w.alloc o1).alloc o2).heap[g]? = some o1 := by
  subst hg
  have h := heap_alloc_new w o1
  have hl := Fresh.lt h
  rw [← h]
  simp only [World.alloc, Array.getElem?_push]
  simp
theorem FreshA.set_neb {α : Type} {cf : α → List Value} {sz : Nat} {T : TypeId} {B cap : Nat} {w : World} {A : Option Addr} {xs : List α} (h : FreshA cf sz T B w A cap xs) {p : Addr} (hne : NeB p.block A) (u : Value) : FreshA cf sz T B (w.setCell p u) A cap xs := by
  rcases h with h | ⟨g, rfl, hB, h⟩
  · exact .inl h
  · exact .inr ⟨g, rfl, hB, h.block (Below.heap_setCell w p u g (by have := hne _ rfl; dsimp only at this; omega))⟩
theorem calls_named {P : Program} {f : Nat} {args : Array Value} {K : Ending → World → Prop} {w : World} (h : ∀ V, V = w → Calls P f args V K) : Calls P f args w K := h w rfl
theorem heap_alloc_newgd {w : World} {g : Nat} {o : Obj} (hg : g = w.heap.size) : (w.alloc o).drew.heap[g]? = some o := heap_alloc_newg hg
theorem heap_alloc2gd {w : World} {g : Nat} {o1 o2 : Obj} (hg : g = w.heap.size) : ((w.alloc o1).alloc o2).drew.heap[g]? = some o1 := heap_alloc2g hg

theorem below_dn {B n : Nat} {a w : World} (h : Below B a w) : Below B a (w.drewN n) := ⟨h.os, h.tape, h.output, h.size, h.block⟩

end Go.Proofs.Ytfipmalomhflgaa
