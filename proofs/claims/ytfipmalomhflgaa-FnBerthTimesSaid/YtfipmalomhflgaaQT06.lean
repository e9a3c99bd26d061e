import Derived.Test.YtfipmalomhflgaaQT03
import Derived.Laws.IdiomCopy
import Derived.Lib.Overlaps
namespace Go.Proofs.Ytfipmalomhflgaa
set_option linter.unusedSimpArgs false
set_option linter.unusedVariables false
open Go.RowKit

section
variable {α : Type} {cf : α → List Value} {sz : Nat} {T : TypeId} {w w' : World} {A : Option Addr} {xs : List α} {g cap B : Nat}
theorem setCells_stores (g : Nat) : ∀ (vs : List Value) (o : Nat) (w : World), w.setCells g o vs = stores w g o vs
  | [], _, _ => rfl
  | v :: vs, o, w => setCells_stores g vs (o + 1) (w.setCell ⟨g, o, none⟩ v)
/-- 'copy' at elements of k cells: all is read before anything is written. -/
theorem run_copy_k {P : Program} (w : World) (dT sT ty elem : TypeId) (b o dLen dCap : Nat) (a : Addr) (sLen sCap k : Nat) (cs : List Value)
    (hu : P.underlying dT = some (.slice elem)) (hs : (P.info? elem).map (·.size) = some k) (hn : cs.length = Nat.min sLen dLen * k)
    (hsrc : ∀ j v, cs[j]? = some v → w.cell? (a.add j) = some v) (hc : ∀ j, j < cs.length → (w.cell? ⟨b, o + j, none⟩).isSome = true) (hf : ∀ j, j < cs.length → w.frozen? ⟨b, o + j, none⟩ = false) (h1 : ∀ v ∈ cs, v.oneCell' = true) :
    (Builtin.copy_ #[dT, sT] ty #[.slice (some ⟨b, o, none⟩) dLen dCap, .slice (some a) sLen sCap]).run P w = .ok (goInt (Nat.min sLen dLen)) (w.setCells b o cs) := by
  have hl := run_loadCells_list (P := P) w a cs hsrc
  have hst := run_storeCells_cells (P := P) b o cs 0 w (by simpa using hc) (by simpa using hf) h1
  cases hq : P.info? elem with
  | none => simp [hq] at hs
  | some i =>
    have hi : i.size = k := by simpa [hq] using hs
    simp [Builtin.copy_, run_underlying hu, Builtin.lenOf, Builtin.firstCells, Go.sizeOf, typeInfo, hq, hi, ← hn, hl, hst]
theorem OwnS.flat (hcf : ∀ x, (cf x).length = sz) (hsz : 0 < sz) (h : OwnS cf sz T w g cap xs) : ∃ cur : Array Value, w.heap[g]? = some (.cells cur T (0, 0)) ∧ cur.size = cap * sz ∧ xs.length ≤ cap ∧ cap ≤ maxLen ∧ ∀ p, p < xs.length * sz → cur[p]? = (xs.flatMap cf)[p]? := by
  obtain ⟨cur, h1, h2, h3, h4, h5⟩ := h
  refine ⟨cur, h1, h2, h3, h4, fun p hp => ?_⟩
  have hi : p / sz < xs.length := Nat.div_lt_of_lt_mul (by rw [Nat.mul_comm]; exact hp)
  have hj : p % sz < sz := Nat.mod_lt _ hsz
  have e : p / sz * sz + p % sz = p := by rw [Nat.mul_comm]; exact Nat.div_add_mod p sz
  have hx : xs[p / sz]? = some xs[p / sz] := List.getElem?_eq_getElem hi
  have hv : (cf xs[p / sz])[p % sz]? = some ((cf xs[p / sz])[p % sz]'(by rw [hcf]; exact hj)) := List.getElem?_eq_getElem _
  have h6 := h5 _ _ hx _ _ hv
  have h7 := flatMap_at hcf xs _ _ _ hx hj
  rw [e] at h6 h7
  rw [h6, h7, hv]
/-- a row that holds what stood ahead of i, y, what stood from i on -/
theorem OwnS.of_ins {y : α} {i : Nat} {cur : Array Value} (hcf : ∀ x, (cf x).length = sz) (hi : i ≤ xs.length) (h1 : w.heap[g]? = some (.cells cur T (0, 0))) (h2 : cur.size = cap * sz) (h3 : xs.length + 1 ≤ cap) (h4 : cap ≤ maxLen)
    (ha : ∀ p, p < i * sz → cur[p]? = (xs.flatMap cf)[p]?) (hb : ∀ p, p < sz → cur[i * sz + p]? = (cf y)[p]?) (hc : ∀ p, i * sz + p < xs.length * sz → cur[i * sz + sz + p]? = (xs.flatMap cf)[i * sz + p]?) : OwnS cf sz T w g cap (xs.take i ++ y :: xs.drop i) := by
  refine ⟨cur, h1, h2, by simp; omega, h4, fun q x hx j v hv => ?_⟩
  have hj := lt_of_cf hcf hv
  have htl : (xs.take i).length = i := by rw [List.length_take]; omega
  rw [List.getElem?_append, htl] at hx
  split at hx
  · rename_i hq
    rw [List.getElem?_take, if_pos hq] at hx
    have : (q + 1) * sz ≤ i * sz := Nat.mul_le_mul_right sz hq
    rw [Nat.succ_mul] at this
    rw [ha _ (by omega), flatMap_at hcf xs q x j hx hj]
    exact hv
  · rename_i hq
    rcases Nat.lt_or_ge i q with hlt | hge
    · obtain ⟨d, rfl⟩ : ∃ d, q = i + 1 + d := ⟨q - i - 1, by omega⟩
      rw [show i + 1 + d - i = d + 1 by omega, List.getElem?_cons_succ, List.getElem?_drop] at hx
      have hlt' : i + d < xs.length := by
        rcases Nat.lt_or_ge (i + d) xs.length with h | h
        · exact h
        · rw [List.getElem?_eq_none h] at hx; cases hx
      have hm : (i + d + 1) * sz ≤ xs.length * sz := Nat.mul_le_mul_right sz hlt'
      rw [Nat.succ_mul, Nat.add_mul] at hm
      have e1 : (i + 1 + d) * sz + j = i * sz + sz + (d * sz + j) := by rw [Nat.add_mul, Nat.succ_mul]; omega
      have e2 : i * sz + (d * sz + j) = (i + d) * sz + j := by rw [Nat.add_mul]; omega
      rw [e1, hc _ (by omega), e2, flatMap_at hcf xs (i + d) x j hx hj]
      exact hv
    · have : q = i := by omega
      subst this
      simp only [Nat.sub_self, List.getElem?_cons_zero, Option.some.injEq] at hx
      subst hx
      rw [hb j hj]
      exact hv
theorem grown_stores {a : World} : ∀ (vs : List Value) (w : World) (o : Nat), a.grownBy w (some g) → a.grownBy (stores w g o vs) (some g)
  | [], _, _, h => h
  | _ :: vs, _, _, h => grown_stores vs _ _ (grown_set h)
theorem grown_drew0 (w : World) (row : Option Nat) : w.grownBy w.drew row := ⟨rfl, rfl, rfl, Nat.le_refl _, fun _ _ _ => rfl⟩
end
theorem cellDrew (w : World) (x : Addr) : w.drew.cell? x = w.cell? x := rfl
theorem frozDrew (w : World) (x : Addr) : w.drew.frozen? x = w.frozen? x := rfl
theorem heapDrewAt {w : World} {i : Nat} {o : Option Obj} (h : w.heap[i]? = o) : w.drew.heap[i]? = o := h

end Go.Proofs.Ytfipmalomhflgaa
namespace Go.Proofs.Ytfipmalomhflgaa
set_option linter.unusedSimpArgs false
set_option linter.unusedVariables false
open Go.RowKit

def posI (f : Int) (xs : List (Int × Int × Int × Int × Int)) : Nat := (xs.takeWhile fun x => decide (x.1 < f)).length
theorem takeWhile_len {α : Type} {p : α → Bool} : ∀ {xs : List α} {k : Nat}, k ≤ xs.length → (∀ q (hq : q < xs.length), q < k → p xs[q] = true) → (∀ hk : k < xs.length, p xs[k] = false) → (xs.takeWhile p).length = k
  | [], k, hk, _, _ => by simp at hk; simp [hk]
  | x :: xs, 0, _, _, h2 => by
    have := h2 (by simp)
    simp at this
    simp [List.takeWhile_cons, this]
  | x :: xs, k + 1, hk, h1, h2 => by
    have h0 := h1 0 (by simp) (by omega)
    simp at h0
    rw [List.takeWhile_cons, if_pos h0, List.length_cons]
    congr 1
    refine takeWhile_len (by simpa using hk) (fun q hq hqk => ?_) (fun hk' => ?_)
    · exact h1 (q + 1) (by simp; omega) (by omega)
    · exact h2 (by simp; omega)
theorem posI_at {f : Int} {xs : List (Int × Int × Int × Int × Int)} {k : Nat} (hk : k ≤ xs.length) (h1 : ∀ q (hq : q < xs.length), q < k → xs[q].1 < f) (h2 : ∀ hk : k < xs.length, ¬ xs[k].1 < f) : posI f xs = k :=
  takeWhile_len hk (fun q hq hqk => decide_eq_true (h1 q hq hqk)) (fun hk' => decide_eq_false (h2 hk'))
def insI (xs : List (Int × Int × Int × Int × Int)) (y : Int × Int × Int × Int × Int) : List (Int × Int × Int × Int × Int) := xs.take (posI y.1 xs) ++ y :: xs.drop (posI y.1 xs)
theorem insI_len (xs : List (Int × Int × Int × Int × Int)) (y : Int × Int × Int × Int × Int) : (insI xs y).length = xs.length + 1 := by
  have : posI y.1 xs ≤ xs.length := (List.takeWhile_prefix _).length_le
  simp [insI]
  omega
def addV (q : Int) (xs : List (Int × Int × Int × Int × Int)) (y : Int × Int × Int × Int × Int) : List (Int × Int × Int × Int × Int) × Bool := if berV q xs = true ∧ berV q (insI xs y) = true then (insI xs y, true) else ([], false)
theorem addV_len (q : Int) (xs : List (Int × Int × Int × Int × Int)) (y : Int × Int × Int × Int × Int) : (addV q xs y).1.length ≤ 10 := by
  unfold addV
  split
  · rename_i h
    exact berV_len h.2
  · simp
theorem FreshA.newh {α : Type} {cf : α → List Value} {sz : Nat} {T : TypeId} {B g : Nat} {w : World} (hg : w.heap.size = g) (hB : B ≤ g) : FreshA cf sz T B (w.alloc (.cells #[] T)) (some ⟨g, 0, none⟩) 0 ([] : List α) := by
  subst hg
  exact .inr ⟨w.heap.size, rfl, hB, #[], heap_alloc_new _ _, by simp, by simp, by unfold maxLen; omega, fun i x h => by simp at h⟩
theorem heap_alloc_newg {w : World} {g : Nat} {o : Obj} (hg : g = w.heap.size) : (w.alloc o).heap[g]? = some o := by
  subst hg
  exact heap_alloc_new _ _
theorem heap_alloc2g {w : World} {g : Nat} {o1 o2 : Obj} (hg : g = w.heap.size) : ((w.alloc o1).alloc o2).heap[g]? = some o1 := by
  subst hg
  have h := heap_alloc_new w o1
  have hl := Fresh.lt h
  rw [← h]
  simp only [World.alloc, Array.getElem?_push]
  simp
theorem FreshA.set_neb {α : Type} {cf : α → List Value} {sz : Nat} {T : TypeId} {B cap : Nat} {w : World} {A : Option Addr} {xs : List α} (h : FreshA cf sz T B w A cap xs) {p : Addr} (hne : NeB p.block A) (u : Value) : FreshA cf sz T B (w.setCell p u) A cap xs := by
  rcases h with h | ⟨g, rfl, hB, h⟩
  · exact .inl h
  · exact .inr ⟨g, rfl, hB, h.block (Below.heap_setCell w p u g (by have := hne _ rfl; dsimp only at this; omega))⟩
theorem calls_named {P : Program} {f : Nat} {args : Array Value} {K : Ending → World → Prop} {w : World} (h : ∀ V, V = w → Calls P f args V K) : Calls P f args w K := h w rfl
theorem heap_alloc_newgd {w : World} {g : Nat} {o : Obj} (hg : g = w.heap.size) : (w.alloc o).drew.heap[g]? = some o := heap_alloc_newg hg
theorem heap_alloc2gd {w : World} {g : Nat} {o1 o2 : Obj} (hg : g = w.heap.size) : ((w.alloc o1).alloc o2).drew.heap[g]? = some o1 := heap_alloc2g hg

theorem below_dn {B n : Nat} {a w : World} (h : Below B a w) : Below B a (w.drewN n) := ⟨h.os, h.tape, h.output, h.size, h.block⟩

end Go.Proofs.Ytfipmalomhflgaa
namespace Go.Proofs.Ytfipmalomhflgaa
set_option linter.unusedSimpArgs false
set_option linter.unusedVariables false
open Go.RowKit

theorem findSome_range {β : Type} {g : Nat → Option β} {b : β} : ∀ n, (List.range n).findSome? g = some b → ∃ j, j < n ∧ g j = some b ∧ ∀ i, i < j → g i = none
  | 0, h => by simp at h
  | n + 1, h => by
    rw [List.range_succ, List.findSome?_append] at h
    cases hn : (List.range n).findSome? g with
    | some c =>
      rw [hn] at h
      simp only [Option.some_or, Option.some.injEq] at h
      subst h
      obtain ⟨j, h1, h2, h3⟩ := findSome_range n hn
      exact ⟨j, by omega, h2, h3⟩
    | none =>
      rw [hn] at h
      rw [List.findSome?_eq_none_iff] at hn
      refine ⟨n, by omega, ?_, fun i hi => hn i (List.mem_range.2 hi)⟩
      cases hg : g n with
      | none => rw [List.findSome?_cons, hg] at h; simp at h
      | some c => rw [List.findSome?_cons, hg] at h; simpa using h
theorem early_law {q : Int} {xs : List (Int × Int × Int × Int × Int)} {l s f hr ce : Int} (h : earlyV q xs l s f = (hr, ce, true)) :
    berV q xs = true ∧ 1 ≤ l ∧ 1 ≤ s ∧ 0 ≤ f ∧ f ≤ hr ∧ hr + s ≤ 500 ∧ 0 ≤ ce ∧ ce + l ≤ q ∧ meets xs ce l hr (hr + s) = false ∧ (f < hr → ∀ c : Int, 0 ≤ c → c + l ≤ q → meets xs c l (hr - 1) (hr - 1 + s) = true) := by
  unfold earlyV at h
  split at h
  · rename_i hc
    obtain ⟨h1, h2, h3, h4, h5⟩ := hc
    cases he : earlyF q xs l s f with
    | none => rw [he] at h; simp [earlyR] at h
    | some jc =>
      obtain ⟨j, c⟩ := jc
      rw [he] at h
      simp only [earlyR, Prod.mk.injEq, and_true] at h
      obtain ⟨rfl, rfl⟩ := h
      unfold earlyF at he
      obtain ⟨i, hi, hg, hn⟩ := findSome_range _ he
      cases hr : rowFree xs l s (f + i) (q - l + 1).toNat with
      | none => rw [hr] at hg; cases hg
      | some c' =>
        rw [hr] at hg
        simp only [Option.map_some, Option.some.injEq, Prod.mk.injEq] at hg
        obtain ⟨rfl, rfl⟩ := hg
        unfold rowFree at hr
        have hm := List.mem_range.1 (List.mem_of_find?_eq_some hr)
        have hp := List.find?_some hr
        simp only [Bool.not_eq_true'] at hp
        refine ⟨h1, h2, h3, h4, by omega, by omega, by omega, by omega, hp, fun hlt c hc0 hcl => ?_⟩
        have hz := hn (i - 1) (by omega)
        cases hr2 : rowFree xs l s (f + (i - 1 : Nat)) (q - l + 1).toNat with
        | some x => rw [hr2] at hz; cases hz
        | none =>
          unfold rowFree at hr2
          rw [List.find?_eq_none] at hr2
          have := hr2 c.toNat (List.mem_range.2 (by omega))
          simp only [Bool.not_eq_true', Bool.not_eq_false] at this
          have e1 : (c.toNat : Int) = c := by omega
          have e2 : f + ((i - 1 : Nat) : Int) = f + (i : Int) - 1 := by omega
          rw [e1, e2] at this
          exact this
  · simp at h
theorem posI_all {z : Int} {xs : List (Int × Int × Int × Int × Int)} (h : ∀ x ∈ xs, x.1 < z) : posI z xs = xs.length :=
  takeWhile_len (Nat.le_refl _) (fun q hq _ => decide_eq_true (h _ (List.getElem_mem hq))) (fun hk => absurd hk (by omega))
theorem insI_all {xs : List (Int × Int × Int × Int × Int)} {y : Int × Int × Int × Int × Int} (h : ∀ x ∈ xs, x.1 < y.1) : insI xs y = xs ++ [y] := by
  unfold insI
  rw [posI_all h]
  simp
theorem berAt_app {q : Int} {xs ys : List (Int × Int × Int × Int × Int)} {k : Nat} (hk : k < xs.length) : berAt q (xs ++ ys) k = berAt q xs k := by
  unfold berAt
  have e1 : (xs ++ ys)[k]? = xs[k]? := List.getElem?_append_left hk
  have e2 : (xs ++ ys).take k = xs.take k := by rw [List.take_append_of_le_length (by omega)]
  rw [e1, e2]
  cases k with
  | zero => rfl
  | succ k =>
    have e3 : (xs ++ ys)[k]? = xs[k]? := List.getElem?_append_left (by omega)
    simp only [e3]
theorem berAt_last {q : Int} {xs : List (Int × Int × Int × Int × Int)} {y : Int × Int × Int × Int × Int} (h : ∀ x ∈ xs, x.1 < y.1) : berAt q (xs ++ [y]) xs.length = (berOk q y && !(meets xs y.2.1 y.2.2.1 y.2.2.2.1 y.2.2.2.2)) := by
  unfold berAt
  have e1 : (xs ++ [y])[xs.length]? = some y := by simp
  have e2 : (xs ++ [y]).take xs.length = xs := by simp
  rw [e1, e2]
  cases hx : xs.length with
  | zero => simp
  | succ k =>
    have hk : k < xs.length := by omega
    have e3 : (xs ++ [y])[k]? = some xs[k] := by rw [List.getElem?_append_left hk]; exact List.getElem?_eq_getElem hk
    simp only [e3]
    have := h _ (List.getElem_mem hk)
    simp [this]
theorem addV_last {q : Int} {xs : List (Int × Int × Int × Int × Int)} {y : Int × Int × Int × Int × Int} (hv : berV q xs = true) (h : ∀ x ∈ xs, x.1 < y.1) (hl : xs.length < 10) (hok : berOk q y = true) (hm : meets xs y.2.1 y.2.2.1 y.2.2.2.1 y.2.2.2.2 = false) : addV q xs y = (xs ++ [y], true) := by
  have hn : berV q (xs ++ [y]) = true := by
    rw [berV_all (berV_quay hv)]
    · simp; omega
    · intro j hj
      rw [List.length_append, List.length_singleton] at hj
      by_cases hjx : j < xs.length
      · rw [berAt_app hjx]; exact berV_ats hv j hjx
      · have : j = xs.length := by omega
        subst this
        rw [berAt_last h, hok, hm]; rfl
  unfold addV
  rw [insI_all h, if_pos ⟨hv, hn⟩]
theorem addV_clash {q : Int} {xs : List (Int × Int × Int × Int × Int)} {y : Int × Int × Int × Int × Int} (h : ∀ x ∈ xs, x.1 < y.1) (hm : meets xs y.2.1 y.2.2.1 y.2.2.2.1 y.2.2.2.2 = true) : addV q xs y = ([], false) := by
  have hn : berV q (xs ++ [y]) = false := berV_bad (k := xs.length) (by simp) (by rw [berAt_last h, hm]; simp)
  unfold addV
  rw [insI_all h, if_neg (by rw [hn]; simp)]
theorem ids_lt {q : Int} {xs : List (Int × Int × Int × Int × Int)} {z : Int} {m : Nat} (hv : berV q xs = true) (hm : m < xs.length) (hlast : xs.length ≤ m + 1) (hz : xs[m].1 < z) : ∀ x ∈ xs, x.1 < z := by
  intro x hx
  obtain ⟨i, hi, rfl⟩ := List.getElem_of_mem hx
  by_cases he : i = m
  · subst he; exact hz
  · have := berV_mono hv i m (by omega) hm
    omega
theorem bt_add {q : Int} {xs : List (Int × Int × Int × Int × Int)} {l s f hr ce : Int} (h : earlyV q xs l s f = (hr, ce, true)) (hl : xs.length < 10) (hi : ∀ x ∈ xs, x.1 < 99) :
    (∃ L, addV q xs (99, ce, l, hr, hr + s) = (L, true)) ∧ f ≤ hr ∧ (f < hr → ∀ c : Int, 0 ≤ c → c + l ≤ q → addV q xs (99, c, l, hr - 1, hr + s - 1) = ([], false)) ∧ 0 ≤ f ∧ 1 ≤ l ∧ 1 ≤ s ∧ hr + s ≤ 500 ∧ 0 ≤ ce ∧ ce + l ≤ q ∧ q ≤ 20 := by
  obtain ⟨h1, h2, h3, h4, h5, h6, h7, h8, h9, h10⟩ := early_law h
  have hq := inB_bd (berV_quay h1)
  refine ⟨⟨_, addV_last (y := (99, ce, l, hr, hr + s)) h1 hi hl ?_ h9⟩, h5, fun hlt c hc0 hcl => addV_clash (y := (99, c, l, hr - 1, hr + s - 1)) hi ?_, h4, h2, h3, h6, h7, h8, hq.2⟩
  · simp only [berOk, berB, decide_eq_true_eq]
    omega
  · have := h10 hlt c hc0 hcl
    rw [show hr - 1 + s = hr + s - 1 by omega] at this
    exact this
/-- what the hours seen tell: the run of free hours that ends with the last one, and the longest -/
def longI (xs : List (Int × Int × Int × Int × Int)) (c : Int) (k : Nat) (a : Int × Int × Int) : Prop :=
  (∀ h : Int, (k : Int) - a.2.2 ≤ h → h < k → freeAt xs c h = true) ∧ (0 < (k : Int) - a.2.2 → freeAt xs c ((k : Int) - a.2.2 - 1) = false) ∧ 0 ≤ a.2.2 ∧ a.2.2 ≤ k ∧
  (0 < a.2.1 → 0 ≤ a.1 ∧ a.1 + a.2.1 ≤ k ∧ (∀ h : Int, a.1 ≤ h → h < a.1 + a.2.1 → freeAt xs c h = true) ∧ (0 < a.1 → freeAt xs c (a.1 - 1) = false)) ∧ 0 ≤ a.2.1
theorem longTo_I (xs : List (Int × Int × Int × Int × Int)) (c : Int) : ∀ k, longI xs c k (longTo xs c k)
  | 0 => by
    refine ⟨fun h h1 h2 => ?_, fun h => ?_, ?_, ?_, fun h => ?_, ?_⟩ <;> simp [longTo] at * <;> omega
  | k + 1 => by
    have ih := longTo_I xs c k
    rw [longTo_succ]
    generalize longTo xs c k = a at *
    obtain ⟨i1, i2, i3, i4, i5, i6⟩ := ih
    unfold longS
    by_cases hf : freeAt xs c k = true
    · simp only [hf, if_true]
      have hrun : ∀ h : Int, ((k + 1 : Nat) : Int) - (a.2.2 + 1) ≤ h → h < ((k + 1 : Nat) : Int) → freeAt xs c h = true := by
        intro h h1 h2
        by_cases he : h = k
        · subst he; exact hf
        · exact i1 h (by omega) (by omega)
      have hst : 0 < ((k + 1 : Nat) : Int) - (a.2.2 + 1) → freeAt xs c (((k + 1 : Nat) : Int) - (a.2.2 + 1) - 1) = false := by
        intro h
        have := i2 (by omega)
        rw [show ((k + 1 : Nat) : Int) - (a.2.2 + 1) - 1 = (k : Int) - a.2.2 - 1 by omega]
        exact this
      split
      · rename_i hlt
        refine ⟨hrun, hst, by simp only; omega, by simp only; omega, fun _ => ⟨by simp only; omega, by simp only; omega, fun h h1 h2 => hrun h (by simp only at h1; omega) (by simp only at h2; omega), fun h => ?_⟩, by simp only; omega⟩
        simp only at h ⊢
        have := hst (by omega)
        rw [show (k : Int) - (a.2.2 + 1) + 1 - 1 = ((k + 1 : Nat) : Int) - (a.2.2 + 1) - 1 by omega]
        exact this
      · refine ⟨hrun, hst, by simp only; omega, by simp only; omega, fun hp => ?_, i6⟩
        obtain ⟨j1, j2, j3, j4⟩ := i5 hp
        exact ⟨j1, by simp only; omega, j3, j4⟩
    · have hff : freeAt xs c k = false := by simpa using hf
      simp only [hff, Bool.false_eq_true, if_false]
      split
      · omega
      · refine ⟨fun h h1 h2 => by simp only at h1; omega, fun _ => ?_, by simp only; omega, by simp only; omega, fun hp => ?_, i6⟩
        · simp only
          rw [show ((k + 1 : Nat) : Int) - 0 - 1 = (k : Int) by omega]
          exact hff
        · obtain ⟨j1, j2, j3, j4⟩ := i5 hp
          exact ⟨j1, by simp only; omega, j3, j4⟩
theorem freeV_mem {q : Int} {xs : List (Int × Int × Int × Int × Int)} {h c : Int} (hv : berV q xs = true) (h0 : 0 ≤ h) (h1 : h ≤ 499) (hc0 : 0 ≤ c) (hc1 : c < q) : ∃ L, freeV q xs h = (L, true) ∧ L.length ≤ 20 ∧ decide (c ∈ L) = freeAt xs c h := by
  have hl := freeV_len q xs h
  refine ⟨freeTo xs h q.toNat, ?_, ?_, ?_⟩
  · unfold freeV
    rw [if_pos ⟨hv, by simp [inB]; omega⟩]
  · unfold freeV at hl
    rw [if_pos ⟨hv, by simp [inB]; omega⟩] at hl
    exact hl
  · have he : (c.toNat : Int) = c := by omega
    have : c ∈ freeTo xs h q.toNat ↔ freeAt xs c h = true := by
      unfold freeTo
      rw [List.mem_map]
      constructor
      · rintro ⟨a, ha, rfl⟩
        exact (List.mem_filter.1 ha).2
      · intro hf
        refine ⟨c.toNat, List.mem_filter.2 ⟨List.mem_range.2 (by omega), ?_⟩, he⟩
        rw [he]; exact hf
    by_cases hf : freeAt xs c h = true
    · rw [hf]; exact decide_eq_true (this.2 hf)
    · rw [Bool.eq_false_iff.2 hf]; exact decide_eq_false (fun hm => hf (this.1 hm))
theorem bt_long {q : Int} {xs : List (Int × Int × Int × Int × Int)} {c fi n : Int} (h : longV q xs c = (fi, n, true)) :
    (∃ L, freeV q xs fi = (L, true) ∧ L.length ≤ 20 ∧ decide (c ∈ L) = true) ∧ (∃ L, freeV q xs (fi + n - 1) = (L, true) ∧ L.length ≤ 20 ∧ decide (c ∈ L) = true) ∧ (0 < fi → ∃ L, freeV q xs (fi - 1) = (L, true) ∧ L.length ≤ 20 ∧ decide (c ∈ L) = false) ∧ 0 ≤ fi ∧ 1 ≤ n ∧ fi + n ≤ 500 := by
  unfold longV at h
  split at h
  · rename_i hc
    have hb := inB_bd hc.2
    have hI := longTo_I xs c 500
    generalize longTo xs c 500 = a at *
    simp only [Prod.mk.injEq, decide_eq_true_eq] at h
    obtain ⟨rfl, rfl, hp⟩ := h
    obtain ⟨_, _, _, _, i5, _⟩ := hI
    obtain ⟨j1, j2, j3, j4⟩ := i5 hp
    obtain ⟨L1, e1, l1, m1⟩ := freeV_mem (h := a.1) (c := c) hc.1 j1 (by omega) hb.1 (by omega)
    obtain ⟨L2, e2, l2, m2⟩ := freeV_mem (h := a.1 + a.2.1 - 1) (c := c) hc.1 (by omega) (by omega) hb.1 (by omega)
    refine ⟨⟨L1, e1, l1, by rw [m1]; exact j3 _ (by omega) (by omega)⟩, ⟨L2, e2, l2, by rw [m2]; exact j3 _ (by omega) (by omega)⟩, fun hf => ?_, j1, by omega, by omega⟩
    obtain ⟨L3, e3, l3, m3⟩ := freeV_mem (h := a.1 - 1) (c := c) hc.1 (by omega) (by omega) hb.1 (by omega)
    exact ⟨L3, e3, l3, by rw [m3]; exact j4 hf⟩
  · simp at h

end Go.Proofs.Ytfipmalomhflgaa
