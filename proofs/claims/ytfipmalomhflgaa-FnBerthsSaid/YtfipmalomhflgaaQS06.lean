import Derived.Test.YtfipmalomhflgaaQS03
import Derived.Laws.IdiomCopy
import Derived.Lib.Overlaps
namespace Go.Proofs.Ytfipmalomhflgaa
set_option linter.unusedSimpArgs false
set_option linter.unusedVariables false
open Go.RowKit

section
variable {α : Type} {cf : α → List Value} {sz : Nat} {T : TypeId} {w w' : World} {A : Option Addr} {xs : List α} {g cap B : Nat}
theorem setCells_stores (g : Nat) : ∀ (vs : List Value) (o : Nat) (w : World), w.setCells g o vs = stores w g o vs
  | [], _, _ => rfl
  | v :: vs, o, w => setCells_stores g vs (o + 1) (w.setCell ⟨g, o, none⟩ v)
/-- 'copy' at elements of k cells: all is read before anything is written. -/
theorem run_copy_k {P : Program} (w : World) (dT sT ty elem : TypeId) (b o dLen dCap : Nat) (a : Addr) (sLen sCap k : Nat) (cs : List Value)
    (hu : P.underlying dT = some (.slice elem)) (hs : (P.info? elem).map (·.size) = some k) (hn : cs.length = Nat.min sLen dLen * k)
    (hsrc : ∀ j v, cs[j]? = some v → w.cell? (a.add j) = some v) (hc : ∀ j, j < cs.length → (w.cell? ⟨b, o + j, none⟩).isSome = true) (hf : ∀ j, j < cs.length → w.frozen? ⟨b, o + j, none⟩ = false) (h1 : ∀ v ∈ cs, v.oneCell' = true) :
    (Builtin.copy_ #[dT, sT] ty #[.slice (some ⟨b, o, none⟩) dLen dCap, .slice (some a) sLen sCap]).run P w = .ok (goInt (Nat.min sLen dLen)) (w.setCells b o cs) := by
  have hl := run_loadCells_list (P := P) w a cs hsrc
  have hst := run_storeCells_cells (P := P) b o cs 0 w (by simpa using hc) (by simpa using hf) h1
  cases hq : P.info? elem with
  | none => simp [hq] at hs
  | some i =>
    have hi : i.size = k := by simpa [hq] using hs
    simp [Builtin.copy_, run_underlying hu, Builtin.lenOf, Builtin.firstCells, Go.sizeOf, typeInfo, hq, hi, ← hn, hl, hst]
theorem OwnS.flat (hcf : ∀ x, (cf x).length = sz) (hsz : 0 < sz) (h : OwnS cf sz T w g cap xs) : ∃ cur : Array Value, w.heap[g]? = some (.cells cur T (0, 0)) ∧ cur.size = cap * sz ∧ xs.length ≤ cap ∧ cap ≤ maxLen ∧ ∀ p, p < xs.length * sz → cur[p]? = (xs.flatMap cf)[p]? := by
  obtain ⟨cur, h1, h2, h3, h4, h5⟩ := h
  refine ⟨cur, h1, h2, h3, h4, fun p hp => ?_⟩
  have hi : p / sz < xs.length := Nat.div_lt_of_lt_mul (by rw [Nat.mul_comm]; exact hp)
  have hj : p % sz < sz := Nat.mod_lt _ hsz
  have e : p / sz * sz + p % sz = p := by rw [Nat.mul_comm]; exact Nat.div_add_mod p sz
  have hx : xs[p / sz]? = some xs[p / sz] := List.getElem?_eq_getElem hi
  have hv : (cf xs[p / sz])[p % sz]? = some ((cf xs[p / sz])[p % sz]'(by rw [hcf]; exact hj)) := List.getElem?_eq_getElem _
  have h6 := h5 _ _ hx _ _ hv
  have h7 := flatMap_at hcf xs _ _ _ hx hj
  rw [e] at h6 h7
  rw [h6, h7, hv]
/-- a row that holds what stood ahead of i, y, what stood from i on -/
theorem OwnS.of_ins {y : α} {i : Nat} {cur : Array Value} (hcf : ∀ x, (cf x).length = sz) (hi : i ≤ xs.length) (h1 : w.heap[g]? = some (.cells cur T (0, 0))) (h2 : cur.size = cap * sz) (h3 : xs.length + 1 ≤ cap) (h4 : cap ≤ maxLen)
    (ha : ∀ p, p < i * sz → cur[p]? = (xs.flatMap cf)[p]?) (hb : ∀ p, p < sz → cur[i * sz + p]? = (cf y)[p]?) (hc : ∀ p, i * sz + p < xs.length * sz → cur[i * sz + sz + p]? = (xs.flatMap cf)[i * sz + p]?) : OwnS cf sz T w g cap (xs.take i ++ y :: xs.drop i) := by
  refine ⟨cur, h1, h2, by simp; omega, h4, fun q x hx j v hv => ?_⟩
  have hj := lt_of_cf hcf hv
  have htl : (xs.take i).length = i := by rw [List.length_take]; omega
  rw [List.getElem?_append, htl] at hx
  split at hx
  · rename_i hq
    rw [List.getElem?_take, if_pos hq] at hx
    have : (q + 1) * sz ≤ i * sz := Nat.mul_le_mul_right sz hq
    rw [Nat.succ_mul] at this
    rw [ha _ (by omega), flatMap_at hcf xs q x j hx hj]
    exact hv
  · rename_i hq
    rcases Nat.lt_or_ge i q with hlt | hge
    · obtain ⟨d, rfl⟩ : ∃ d, q = i + 1 + d := ⟨q - i - 1, by omega⟩
      rw [show i + 1 + d - i = d + 1 by omega, List.getElem?_cons_succ, List.getElem?_drop] at hx
      have hlt' : i + d < xs.length := by
        rcases Nat.lt_or_ge (i + d) xs.length with h | h
        · exact h
        · rw [List.getElem?_eq_none h] at hx; cases hx
      have hm : (i + d + 1) * sz ≤ xs.length * sz := Nat.mul_le_mul_right sz hlt'
      rw [Nat.succ_mul, Nat.add_mul] at hm
      have e1 : (i + 1 + d) * sz + j = i * sz + sz + (d * sz + j) := by rw [Nat.add_mul, Nat.succ_mul]; omega
      have e2 : i * sz + (d * sz + j) = (i + d) * sz + j := by rw [Nat.add_mul]; omega
      rw [e1, hc _ (by omega), e2, flatMap_at hcf xs (i + d) x j hx hj]
      exact hv
    · have : q = i := by omega
      subst this
      simp only [Nat.sub_self, List.getElem?_cons_zero, Option.some.injEq] at hx
      subst hx
      rw [hb j hj]
      exact hv
theorem grown_stores {a : World} : ∀ (vs : List Value) (w : World) (o : Nat), a.grownBy w (some g) → a.grownBy (stores w g o vs) (some g)
  | [], _, _, h => h
  | _ :: vs, _, _, h => grown_stores vs _ _ (grown_set h)
theorem grown_drew0 (w : World) (row : Option Nat) : w.grownBy w.drew row := ⟨rfl, rfl, rfl, Nat.le_refl _, fun _ _ _ => rfl⟩
end
theorem cellDrew (w : World) (x : Addr) : w.drew.cell? x = w.cell? x := rfl
theorem frozDrew (w : World) (x : Addr) : w.drew.frozen? x = w.frozen? x := rfl
theorem heapDrewAt {w : World} {i : Nat} {o : Option Obj} (h : w.heap[i]? = o) : w.drew.heap[i]? = o := h

end Go.Proofs.Ytfipmalomhflgaa
namespace Go.Proofs.Ytfipmalomhflgaa
set_option linter.unusedSimpArgs false
set_option linter.unusedVariables false
open Go.RowKit

def posI (f : Int) (xs : List (Int × Int × Int × Int × Int)) : Nat := (xs.takeWhile fun x => decide (x.1 < f)).length
theorem takeWhile_len {α : Type} {p : α → Bool} : ∀ {xs : List α} {k : Nat}, k ≤ xs.length → (∀ q (hq : q < xs.length), q < k → p xs[q] = true) → (∀ hk : k < xs.length, p xs[k] = false) → (xs.takeWhile p).length = k
  | [], k, hk, _, _ => by simp at hk; simp [hk]
  | x :: xs, 0, _, _, h2 => by
    have := h2 (by simp)
    simp at this
    simp [List.takeWhile_cons, this]
  | x :: xs, k + 1, hk, h1, h2 => by
    have h0 := h1 0 (by simp) (by omega)
    simp at h0
    rw [List.takeWhile_cons, if_pos h0, List.length_cons]
    congr 1
    refine takeWhile_len (by simpa using hk) (fun q hq hqk => ?_) (fun hk' => ?_)
    · exact h1 (q + 1) (by simp; omega) (by omega)
    · exact h2 (by simp; omega)
theorem posI_at {f : Int} {xs : List (Int × Int × Int × Int × Int)} {k : Nat} (hk : k ≤ xs.length) (h1 : ∀ q (hq : q < xs.length), q < k → xs[q].1 < f) (h2 : ∀ hk : k < xs.length, ¬ xs[k].1 < f) : posI f xs = k :=
  takeWhile_len hk (fun q hq hqk => decide_eq_true (h1 q hq hqk)) (fun hk' => decide_eq_false (h2 hk'))
def insI (xs : List (Int × Int × Int × Int × Int)) (y : Int × Int × Int × Int × Int) : List (Int × Int × Int × Int × Int) := xs.take (posI y.1 xs) ++ y :: xs.drop (posI y.1 xs)
theorem insI_len (xs : List (Int × Int × Int × Int × Int)) (y : Int × Int × Int × Int × Int) : (insI xs y).length = xs.length + 1 := by
  have : posI y.1 xs ≤ xs.length := (List.takeWhile_prefix _).length_le
  simp [insI]
  omega
def addV (q : Int) (xs : List (Int × Int × Int × Int × Int)) (y : Int × Int × Int × Int × Int) : List (Int × Int × Int × Int × Int) × Bool := if berV q xs = true ∧ berV q (insI xs y) = true then (insI xs y, true) else ([], false)
theorem addV_len (q : Int) (xs : List (Int × Int × Int × Int × Int)) (y : Int × Int × Int × Int × Int) : (addV q xs y).1.length ≤ 10 := by
  unfold addV
  split
  · rename_i h
    exact berV_len h.2
  · simp
theorem FreshA.newh {α : Type} {cf : α → List Value} {sz : Nat} {T : TypeId} {B g : Nat} {w : World} (hg : w.heap.size = g) (hB : B ≤ g) : FreshA cf sz T B (w.alloc (.cells #[] T)) (some ⟨g, 0, none⟩) 0 ([] : List α) := by
  subst hg
  exact .inr ⟨w.heap.size, rfl, hB, #[], heap_alloc_new _ _, by simp, by simp, by unfold maxLen; omega, fun i x h => by simp at h⟩
theorem heap_alloc_newg {w : World} {g : Nat} {o : Obj} (hg : g = w.heap.size) : (w.alloc o).heap[g]? = some o := by
  subst hg
  exact heap_alloc_new _ _
theorem heap_alloc2g {w : World} {g : Nat} {o1 o2 : Obj} (hg : g = w.heap.size) : ((w.alloc o1).alloc o2).heap[g]? = some o1 := by
  subst hg
  have h := heap_alloc_new w o1
  have hl := Fresh.lt h
  rw [← h]
  simp only [World.alloc, Array.getElem?_push]
  simp
theorem FreshA.set_neb {α : Type} {cf : α → List Value} {sz : Nat} {T : TypeId} {B cap : Nat} {w : World} {A : Option Addr} {xs : List α} (h : FreshA cf sz T B w A cap xs) {p : Addr} (hne : NeB p.block A) (u : Value) : FreshA cf sz T B (w.setCell p u) A cap xs := by
  rcases h with h | ⟨g, rfl, hB, h⟩
  · exact .inl h
  · exact .inr ⟨g, rfl, hB, h.block (Below.heap_setCell w p u g (by have := hne _ rfl; dsimp only at this; omega))⟩
theorem calls_named {P : Program} {f : Nat} {args : Array Value} {K : Ending → World → Prop} {w : World} (h : ∀ V, V = w → Calls P f args V K) : Calls P f args w K := h w rfl
theorem heap_alloc_newgd {w : World} {g : Nat} {o : Obj} (hg : g = w.heap.size) : (w.alloc o).drew.heap[g]? = some o := heap_alloc_newg hg
theorem heap_alloc2gd {w : World} {g : Nat} {o1 o2 : Obj} (hg : g = w.heap.size) : ((w.alloc o1).alloc o2).drew.heap[g]? = some o1 := heap_alloc2g hg

theorem below_dn {B n : Nat} {a w : World} (h : Below B a w) : Below B a (w.drewN n) := ⟨h.os, h.tape, h.output, h.size, h.block⟩

end Go.Proofs.Ytfipmalomhflgaa
namespace Go.Proofs.Ytfipmalomhflgaa
set_option linter.unusedSimpArgs false
set_option linter.unusedVariables false
open Go.RowKit

theorem bs_ok {q : Int} {xs : List (Int × Int × Int × Int × Int)} {h : Int} {fr : List Int} {ok : Bool} (e : freeV q xs h = (fr, ok)) : ∃ ly, lyV q xs h = (ly, ok) ∧ ly.length ≤ 200 ∧ fr.length ≤ 20 := by
  have h1 := freeV_len q xs h
  have h2 := lyV_len q xs h
  rw [e] at h1
  by_cases hv : hourOk q xs h = true
  · rw [freeV_yes hv] at e
    rw [lyV_yes hv] at h2 ⊢
    cases e
    exact ⟨_, rfl, h2, h1⟩
  · have hn : hourOk q xs h = false := by simpa using hv
    rw [freeV_no hn] at e
    rw [lyV_no hn] at h2 ⊢
    cases e
    exact ⟨_, rfl, h2, h1⟩
theorem mem_ly {q : Int} {xs : List (Int × Int × Int × Int × Int)} {h z : Int} (hv : berV q xs = true) : z ∈ lyTo xs h q.toNat ↔ ∃ y ∈ xs, lies h y = true ∧ y.1 = z := by
  unfold lyTo lyB
  rw [List.take_length, List.mem_flatMap]
  constructor
  · rintro ⟨c, _, hz⟩
    obtain ⟨y, hy, rfl⟩ := List.mem_map.1 hz
    have h1 := List.mem_filter.1 hy
    have h2 := h1.2
    simp only [atC, Bool.and_eq_true] at h2
    exact ⟨y, h1.1, h2.2, rfl⟩
  · rintro ⟨y, hy, hl, rfl⟩
    have b := berOk_bd (berV_mem hv y hy)
    refine ⟨y.2.1.toNat, List.mem_range.2 (by omega), List.mem_map.2 ⟨y, List.mem_filter.2 ⟨hy, ?_⟩, rfl⟩⟩
    simp only [atC, Bool.and_eq_true, decide_eq_true_eq]
    exact ⟨by omega, hl⟩
theorem ids_inj {q : Int} {xs : List (Int × Int × Int × Int × Int)} (hv : berV q xs = true) {i j : Nat} (hi : i < xs.length) (hj : j < xs.length) (h : xs[i].1 = xs[j].1) : i = j := by
  rcases Nat.lt_trichotomy i j with h1 | h1 | h1
  · have := berV_mono hv i j h1 hj; omega
  · exact h1
  · have := berV_mono hv j i h1 hi; omega
theorem bs_cells {q : Int} {xs : List (Int × Int × Int × Int × Int)} {h : Int} {fr ly : List Int} (e : freeV q xs h = (fr, true)) (e2 : lyV q xs h = (ly, true)) :
    berV q xs = true ∧ (0 ≤ h ∧ h ≤ 499) ∧ (fr.length : Int) + usedTo xs h xs.length = q ∧ (∀ k (hk : k < xs.length), decide (xs[k].1 ∈ ly) = lies h xs[k]) ∧ (∀ k, k ≤ xs.length → 0 ≤ usedTo xs h k ∧ usedTo xs h k ≤ 20) := by
  by_cases hv : hourOk q xs h = true
  · rw [freeV_yes hv] at e
    rw [lyV_yes hv] at e2
    cases e
    cases e2
    obtain ⟨hb, hh⟩ := hourOk_bd hv
    refine ⟨hb, hh, ?_, fun k hk => ?_, fun k hk => usedTo_bd hb h k hk⟩
    · have h1 := (used_free hb h xs.length (Nat.le_refl _)).1
      rw [List.take_length] at h1
      rw [freeTo_cnt]
      exact h1
    · have hm := mem_ly (h := h) (z := xs[k].1) hb
      cases hl : lies h xs[k] with
      | true => exact decide_eq_true (hm.2 ⟨_, List.getElem_mem hk, hl, rfl⟩)
      | false =>
        refine decide_eq_false (fun hz => ?_)
        obtain ⟨y, hy, h1, h2⟩ := hm.1 hz
        obtain ⟨i, hi, rfl⟩ := List.getElem_of_mem hy
        have := ids_inj hb hi hk h2
        subst this
        rw [hl] at h1
        cases h1
  · have hn : hourOk q xs h = false := by simpa using hv
    rw [freeV_no hn] at e
    cases e
theorem used_lies {xs : List (Int × Int × Int × Int × Int)} {h : Int} {k : Nat} (hk : k < xs.length) : usedTo xs h (k + 1) = usedTo xs h k + (if lies h xs[k] = true then xs[k].2.2.1 else 0) := by
  rw [usedTo_succ xs h k hk]
  unfold usedS lies
  by_cases hl : xs[k].2.2.2.1 ≤ h ∧ h < xs[k].2.2.2.2
  · rw [if_pos (by omega), if_pos (decide_eq_true hl)]
  · rw [if_neg (by omega), if_neg (by simpa using hl)]
    omega
theorem hours_fold (l : List (Int × Int × Int × Int × Int)) : ∀ s : Int, l.foldl hoursS s = s + l.foldl hoursS 0 := by
  induction l with
  | nil => intro s; simp
  | cons x l ih =>
    intro s
    rw [List.foldl_cons, List.foldl_cons, ih (hoursS s x), ih (hoursS 0 x)]
    unfold hoursS
    omega
theorem hours_ins (xs : List (Int × Int × Int × Int × Int)) (y : Int × Int × Int × Int × Int) : (insI xs y).foldl hoursS 0 = xs.foldl hoursS 0 + y.2.2.1 * (y.2.2.2.2 - y.2.2.2.1) := by
  have h0 : xs.foldl hoursS 0 = (xs.take (posI y.1 xs)).foldl hoursS 0 + (xs.drop (posI y.1 xs)).foldl hoursS 0 := by
    conv => lhs; rw [← List.take_append_drop (posI y.1 xs) xs]
    rw [List.foldl_append, hours_fold]
  unfold insI
  rw [List.foldl_append, List.foldl_cons, hours_fold _ (hoursS _ y), h0]
  unfold hoursS
  omega
theorem hoursV_yes {q : Int} {xs : List (Int × Int × Int × Int × Int)} (hv : berV q xs = true) : hoursV q xs = (xs.foldl hoursS 0, true) := by
  unfold hoursV hoursTo
  rw [if_pos hv, List.take_length]
theorem hours_bd {q : Int} {xs : List (Int × Int × Int × Int × Int)} (hv : berV q xs = true) : 0 ≤ xs.foldl hoursS 0 ∧ xs.foldl hoursS 0 ≤ 100000 := by
  have h1 := hoursTo_bd hv xs.length (Nat.le_refl _)
  have h2 := berV_len hv
  unfold hoursTo at h1
  rw [List.take_length] at h1
  omega
theorem ins_at (xs : List (Int × Int × Int × Int × Int)) (y : Int × Int × Int × Int × Int) : ∃ h : posI y.1 xs < (insI xs y).length, (insI xs y)[posI y.1 xs] = y := by
  have hp : posI y.1 xs ≤ xs.length := (List.takeWhile_prefix _).length_le
  refine ⟨by rw [insI_len]; omega, ?_⟩
  unfold insI
  rw [List.getElem_append_right (by rw [List.length_take]; omega)]
  have e : posI y.1 xs - (xs.take (posI y.1 xs)).length = 0 := by rw [List.length_take]; omega
  simp only [e, List.getElem_cons_zero]
theorem bs_add {q : Int} {xs L : List (Int × Int × Int × Int × Int)} {z1 z2 z3 z4 z5 : Int} (e : addV q xs (z1, z2, z3, z4, z5) = (L, true)) :
    ∃ X d : Int, hoursV q xs = (X, true) ∧ hoursV q L = (X + d, true) ∧ z3 * (z5 - z4) = d ∧ 0 ≤ X ∧ X ≤ 100000 ∧ 0 ≤ X + d ∧ X + d ≤ 100000 ∧ 0 ≤ z4 ∧ z4 ≤ 500 ∧ 0 ≤ z5 ∧ z5 ≤ 500 ∧
      (z4 + 1 < z5 → ∃ E, leaveV q L z1 (z4 + 1) = (E, true) ∧ E.length = L.length) ∧ (¬ z4 + 1 < z5 → leaveV q L z1 (z4 + 1) = ([], false)) := by
  unfold addV at e
  split at e
  · rename_i hc
    cases e
    obtain ⟨h1, h2⟩ := hc
    have hb1 := hours_bd h1
    have hb2 := hours_bd h2
    have hi := hours_ins xs (z1, z2, z3, z4, z5)
    obtain ⟨hp, hat⟩ := ins_at xs (z1, z2, z3, z4, z5)
    have hok := berOk_bd (berV_at h2 _ hp)
    rw [hat] at hok
    simp only at hok hi
    refine ⟨_, z3 * (z5 - z4), hoursV_yes h1, by rw [hoursV_yes h2, hi], rfl, hb1.1, hb1.2, by omega, by omega, by omega, by omega, by omega, by omega, fun hz => ?_, fun hz => ?_⟩
    · have hh := leave_hit h2 hp (z := z1) (h := z4 + 1) (by
        rw [hat]
        simp only [leaveP, inB, Bool.and_eq_true, decide_eq_true_eq]
        exact ⟨trivial, by omega⟩)
      exact ⟨_, leaveV_some h2 hh, by simp⟩
    · refine leaveV_none (leave_none h2 ?_)
      rw [List.any_eq_false]
      intro x hx hl
      obtain ⟨i, hi2, rfl⟩ := List.getElem_of_mem hx
      simp only [leaveP, inB, Bool.and_eq_true, decide_eq_true_eq] at hl
      have : i = posI z1 xs := ids_inj h2 hi2 hp (by rw [hat]; exact hl.1)
      subst this
      rw [hat] at hl
      simp only at hl
      omega
  · cases e
theorem bs_leave {q : Int} {xs E : List (Int × Int × Int × Int × Int)} {z h : Int} (e : leaveV q xs z h = (E, true)) : berV q E = true := by
  unfold leaveV at e
  split at e
  · rename_i hv
    unfold leaveL at e
    cases hf : findId xs z with
    | none => rw [hf] at e; simp at e
    | some i =>
      have hi := findId_lt hf
      rw [hf] at e
      simp only [List.getElem?_eq_getElem hi] at e
      by_cases hc : xs[i].2.2.2.1 + 1 ≤ h ∧ h ≤ xs[i].2.2.2.2 - 1
      · rw [if_pos hc] at e
        simp only [Prod.mk.injEq, and_true] at e
        subst e
        have hl : (xs.set i (endAt xs[i] h)).length = xs.length := by simp
        have hF : ∀ k (hk : k < xs.length), ∃ y, (xs.set i (endAt xs[i] h))[k]? = some y ∧ y.1 = xs[k].1 ∧ y.2.1 = xs[k].2.1 ∧ y.2.2.1 = xs[k].2.2.1 ∧ y.2.2.2.1 = xs[k].2.2.2.1 ∧ y.2.2.2.1 < y.2.2.2.2 ∧ y.2.2.2.2 ≤ xs[k].2.2.2.2 := by
          intro k hk
          have hb := berOk_bd (berV_at hv k hk)
          by_cases hki : i = k
          · subst hki
            refine ⟨endAt xs[i] h, by rw [List.getElem?_set_self hk], rfl, rfl, rfl, rfl, ?_, ?_⟩
            · show xs[i].2.2.2.1 < h; omega
            · show h ≤ xs[i].2.2.2.2; omega
          · exact ⟨xs[k], by rw [List.getElem?_set_ne hki]; exact List.getElem?_eq_getElem hk, rfl, rfl, rfl, rfl, by omega, by omega⟩
        have hG : ∀ k (hk : k < xs.length) (hk2 : k < (xs.set i (endAt xs[i] h)).length), (xs.set i (endAt xs[i] h))[k].1 = xs[k].1 ∧ (xs.set i (endAt xs[i] h))[k].2.1 = xs[k].2.1 ∧ (xs.set i (endAt xs[i] h))[k].2.2.1 = xs[k].2.2.1 ∧ (xs.set i (endAt xs[i] h))[k].2.2.2.1 = xs[k].2.2.2.1 ∧ (xs.set i (endAt xs[i] h))[k].2.2.2.1 < (xs.set i (endAt xs[i] h))[k].2.2.2.2 ∧ (xs.set i (endAt xs[i] h))[k].2.2.2.2 ≤ xs[k].2.2.2.2 := by
          intro k hk hk2
          obtain ⟨y, h1, h2⟩ := hF k hk
          rw [List.getElem?_eq_getElem hk2, Option.some.injEq] at h1
          rw [h1]
          exact h2
        generalize xs.set i (endAt xs[i] h) = E at *
        have hap := ber_apart hv
        rw [List.pairwise_iff_getElem] at hap
        have hok : ∀ k (hk : k < E.length), berOk q E[k] = true := by
          intro k hk
          have hk2 : k < xs.length := by omega
          have hb := berOk_bd (berV_at hv k hk2)
          have hg := hG k hk2 hk
          simp only [berOk, berB, decide_eq_true_eq]
          omega
        have hx := berV_len hv
        rw [berV_all (berV_quay hv)]
        · simp; omega
        · intro j hj
          cases j with
          | zero => rw [berAt_zero hj]; exact hok 0 hj
          | succ j =>
            have hj0 : j < E.length := by omega
            rw [berAt_succ j hj, hok (j + 1) hj]
            have g1 := hG j (by omega) hj0
            have g2 := hG (j + 1) (by omega) hj
            have hm := berV_lt hv j (by omega)
            have hme : meets (E.take (j + 1)) E[j + 1].2.1 E[j + 1].2.2.1 E[j + 1].2.2.2.1 E[j + 1].2.2.2.2 = false := by
              unfold meets
              rw [List.any_eq_false]
              intro y hy hcr
              obtain ⟨m, hm2, rfl⟩ := List.mem_take_iff_getElem.1 hy
              have hmx : m < xs.length := by omega
              have hme : m < E.length := by omega
              have g3 := hG m hmx hme
              have hap2 := hap m (j + 1) hmx (by omega) (by omega)
              simp only [crash, crashB, decide_eq_true_eq, decide_eq_false_iff_not] at hcr hap2
              exact hap2 (by omega)
            rw [hme]
            simp
            omega
      · rw [if_neg hc] at e
        simp at e
  · simp at e

end Go.Proofs.Ytfipmalomhflgaa
