import Derived.Test.YtgjbdcalmodhpaaPD
namespace Go.Proofs.Ytgjbdcalmodhpaa
set_option linter.unusedSimpArgs false
set_option linter.unusedVariables false
open Go.RowKit

def busyP (m : Int) (x : Int × Bool × Int × Int) : Bool := decide (x.2.2.1 ≤ m ∧ m < x.2.2.2)
def busyA (xs : List (Int × Bool × Int × Int)) (m : Int) : Bool := xs.any (busyP m)
def busyC (xs : List (Int × Bool × Int × Int)) (n : Nat) : Nat := ((List.range n).filter fun m : Nat => busyA xs m).length
theorem busyC_zero (xs : List (Int × Bool × Int × Int)) : busyC xs 0 = 0 := rfl
theorem busyC_succ (xs : List (Int × Bool × Int × Int)) (n : Nat) : busyC xs (n + 1) = busyC xs n + (if busyA xs n = true then 1 else 0) := by
  unfold busyC
  rw [List.range_succ, List.filter_append, List.length_append]
  congr 1
  by_cases h : busyA xs n = true
  · simp [h]
  · simp [h]
theorem busyC_le (xs : List (Int × Bool × Int × Int)) (n : Nat) : busyC xs n ≤ n := by
  unfold busyC
  exact Nat.le_trans (List.length_filter_le _ _) (by simp)
def overP (f t : Int) (x : Int × Bool × Int × Int) : Bool := decide (x.2.2.1 < t ∧ f < x.2.2.2)
def overA (xs : List (Int × Bool × Int × Int)) (f t : Int) : Bool := xs.any (overP f t)
def lastStep (f t : Int) (l : Int) (x : Int × Bool × Int × Int) : Int := if x.2.2.1 < t ∧ f < x.2.2.2 then max l x.2.2.2 else l
def lastB (xs : List (Int × Bool × Int × Int)) (f t : Int) : Int := xs.foldl (lastStep f t) (-1)
theorem lastB_aux (f t : Int) : ∀ (xs : List (Int × Bool × Int × Int)) (l : Int), (∀ x ∈ xs, pOk x = true) → -1 ≤ l → (0 ≤ xs.foldl (lastStep f t) l ↔ 0 ≤ l ∨ xs.any (overP f t) = true)
  | [], l, _, _ => by simp
  | x :: xs, l, h, hl => by
    have hx := h x List.mem_cons_self
    have hxb := pasB_bd (show pasB x.1 x.2.1 x.2.2.1 x.2.2.2 = true from hx)
    have hr := fun l' hl' => lastB_aux f t xs l' (fun y hy => h y (List.mem_cons_of_mem _ hy)) hl'
    rw [List.foldl_cons, List.any_cons, Bool.or_eq_true]
    unfold lastStep
    by_cases hc : x.2.2.1 < t ∧ f < x.2.2.2
    · rw [if_pos hc]
      have := hr (max l x.2.2.2) (by omega)
      unfold lastStep at this
      rw [this]
      have ho : overP f t x = true := by simp [overP]; exact hc
      simp only [ho, true_or, or_true, iff_true]
      left
      omega
    · rw [if_neg hc]
      have := hr l hl
      unfold lastStep at this
      rw [this]
      have ho : overP f t x = false := by simp only [overP, decide_eq_false_iff_not]; exact hc
      simp [ho]
theorem vB_mem {α : Type} {good : α → Bool} {lt : α → α → Bool} {n : Nat} {xs : List α} (h : vB good lt n xs = true) : ∀ x ∈ xs, good x = true := by
  intro x hx
  obtain ⟨i, hi, rfl⟩ := List.getElem_of_mem hx
  exact vB_at h i hi
theorem lastB_pos {xs : List (Int × Bool × Int × Int)} (h : vB pOk pLt 6 xs = true) (f t : Int) : 0 ≤ lastB xs f t ↔ overA xs f t = true := by
  have := lastB_aux f t xs (-1) (vB_mem h) (by omega)
  unfold lastB overA
  rw [this]
  simp
theorem over_busy (xs : List (Int × Bool × Int × Int)) (m : Int) : overA xs m (m + 1) = busyA xs m := by
  unfold overA busyA
  congr 1
  funext x
  simp only [overP, busyP]
  congr 1
  simp only [eq_iff_iff]
  constructor <;> intro h <;> omega
theorem over_of_busy {xs : List (Int × Bool × Int × Int)} {f l t : Int} (h : busyA xs t = true) (h1 : f ≤ t) (h2 : t < f + l) : overA xs f (f + l) = true := by
  unfold busyA at h
  unfold overA
  rw [List.any_eq_true] at h ⊢
  obtain ⟨x, hx, hp⟩ := h
  refine ⟨x, hx, ?_⟩
  simp only [busyP, decide_eq_true_eq] at hp
  simp only [overP, decide_eq_true_eq]
  omega
theorem busy_of_over {xs : List (Int × Bool × Int × Int)} (hv : vB pOk pLt 6 xs = true) {f l : Int} (hl : 1 ≤ l) (h : overA xs f (f + l) = true) : ∃ t, f ≤ t ∧ t < f + l ∧ busyA xs t = true := by
  unfold overA at h
  rw [List.any_eq_true] at h
  obtain ⟨x, hx, hp⟩ := h
  have hxb := pasB_bd (show pasB x.1 x.2.1 x.2.2.1 x.2.2.2 = true from vB_mem hv x hx)
  simp only [overP, decide_eq_true_eq] at hp
  refine ⟨max f x.2.2.1, by omega, by omega, ?_⟩
  unfold busyA
  rw [List.any_eq_true]
  refine ⟨x, hx, ?_⟩
  simp only [busyP, decide_eq_true_eq]
  omega
/-- the first of the minutes from f on at which l free minutes begin -/
def freeV (xs : List (Int × Bool × Int × Int)) (f l : Int) : Int × Bool :=
  match (List.range (10000 - l - f).toNat).find? (fun j : Nat => !overA xs (f + j) (f + j + l)) with
  | some j => (f + j, true)
  | none => (0, false)
theorem freeV_hit {xs : List (Int × Bool × Int × Int)} {f l : Int} {j : Nat} (hj : f + j + l ≤ 9999) (hlt : ∀ i : Nat, i < j → overA xs (f + i) (f + i + l) = true) (hf : overA xs (f + j) (f + j + l) = false) : freeV xs f l = (f + j, true) := by
  have : (List.range (10000 - l - f).toNat).find? (fun j : Nat => !overA xs (f + j) (f + j + l)) = some j := by
    rw [List.find?_range_eq_some]
    refine ⟨by simp [hf], List.mem_range.2 (by omega), fun i hi => by simp [hlt i hi]⟩
  simp only [freeV, this]
theorem freeV_none {xs : List (Int × Bool × Int × Int)} {f l : Int} (hlt : ∀ i : Nat, f + i + l ≤ 9999 → overA xs (f + i) (f + i + l) = true) : freeV xs f l = (0, false) := by
  have : (List.range (10000 - l - f).toNat).find? (fun j : Nat => !overA xs (f + j) (f + j + l)) = none := by
    rw [List.find?_eq_none]
    intro i hi
    rw [List.mem_range] at hi
    simp [hlt i (by omega)]
  simp only [freeV, this]
def busyMV (xs : List (Int × Bool × Int × Int)) : Int × Bool := if vB pOk pLt 6 xs = true then ((busyC xs 9999 : Int), true) else (0, false)
def freeFV (xs : List (Int × Bool × Int × Int)) (f l : Int) : Int × Bool := if vB pOk pLt 6 xs = true ∧ minB f = true ∧ inB l 1 9999 = true then freeV xs f l else (0, false)
/-- what the program's scan keeps: minute t, the beginning b of the free minutes before it -/
structure Scan (xs : List (Int × Bool × Int × Int)) (f l b t : Int) : Prop where
  fb : f ≤ b
  bt : b ≤ t
  short : t - b < l
  free : ∀ u, b ≤ u → u < t → busyA xs u = false
  passed : ∀ m, f ≤ m → m < b → overA xs m (m + l) = true
theorem Scan.start {xs : List (Int × Bool × Int × Int)} {f l : Int} (hl : 1 ≤ l) : Scan xs f l f f := ⟨by omega, by omega, by omega, fun u h1 h2 => by omega, fun m h1 h2 => by omega⟩
theorem Scan.busy {xs : List (Int × Bool × Int × Int)} {f l b t : Int} (h : Scan xs f l b t) (hb : busyA xs t = true) (hl : 1 ≤ l) : Scan xs f l (t + 1) (t + 1) := by
  refine ⟨by have := h.fb; have := h.bt; omega, by omega, by omega, fun u h1 h2 => by omega, fun m h1 h2 => ?_⟩
  by_cases hm : m < b
  · exact h.passed m h1 hm
  · exact over_of_busy hb (by omega) (by have := h.short; omega)
theorem Scan.next {xs : List (Int × Bool × Int × Int)} {f l b t : Int} (h : Scan xs f l b t) (hb : busyA xs t = false) (hl : t + 1 - b < l) : Scan xs f l b (t + 1) := by
  refine ⟨h.fb, by have := h.bt; omega, hl, fun u h1 h2 => ?_, h.passed⟩
  by_cases hu : u = t
  · subst hu; exact hb
  · exact h.free u h1 (by omega)
theorem Scan.hit {xs : List (Int × Bool × Int × Int)} {f l b t : Int} (hv : vB pOk pLt 6 xs = true) (h : Scan xs f l b t) (hb : busyA xs t = false) (hl : t + 1 - b = l) (h1 : 1 ≤ l) (ht : t < 9999) : freeV xs f l = (b, true) := by
  have e : b = f + ((b - f).toNat : Int) := by have := h.fb; omega
  have hh : freeV xs f l = (f + ((b - f).toNat : Int), true) := by
    refine freeV_hit (by omega) (fun i hi => h.passed _ (by omega) (by omega)) ?_
    rw [← e]
    cases hc : overA xs b (b + l) with
    | false => rfl
    | true =>
      obtain ⟨u, h2, h3, h4⟩ := busy_of_over hv h1 hc
      by_cases hu : u = t
      · subst hu; rw [hb] at h4; cases h4
      · rw [h.free u h2 (by omega)] at h4; cases h4
  rw [hh, ← e]
theorem Scan.none {xs : List (Int × Bool × Int × Int)} {f l b t : Int} (h : Scan xs f l b t) (ht : 9999 ≤ t) : freeV xs f l = (0, false) :=
  freeV_none fun i hi => h.passed _ (by omega) (by have := h.short; omega)

def delP (i : Int) (d : Bool) (a b : Int) (g : Int) (y : Int) (x : Int × Bool × Int × Int) : Bool := clashB x.1 x.2.1 x.2.2.1 x.2.2.2 i d (a + y) (b + y) g
def delA (xs : List (Int × Bool × Int × Int)) (i : Int) (d : Bool) (a b : Int) (g y : Int) : Bool := xs.any (delP i d a b g y)
def sameP (i : Int) (x : Int × Bool × Int × Int) : Bool := decide (x.1 = i)
def bdP (x : Int × Bool × Int × Int) : Prop := 0 ≤ x.2.2.1 ∧ x.2.2.1 ≤ 9999 ∧ 0 ≤ x.2.2.2 ∧ x.2.2.2 ≤ 9999
/-- the smallest delay, and whether there is one -/
def smF (xs : List (Int × Bool × Int × Int)) (i : Int) (d : Bool) (a b : Int) (g : Int) : Option Nat := (List.range (10000 - b).toNat).find? (fun y : Nat => !delA xs i d a b g y)
def smD (xs : List (Int × Bool × Int × Int)) (i : Int) (d : Bool) (a b : Int) (g : Int) : Int × Bool := match smF xs i d a b g with | some y => ((y : Int), true) | none => (0, false)
theorem smF_hit {xs : List (Int × Bool × Int × Int)} {i : Int} {d : Bool} {a b g : Int} {y : Nat} (hy : b + y ≤ 9999) (hlt : ∀ z : Nat, z < y → delA xs i d a b g z = true) (hf : delA xs i d a b g y = false) : smF xs i d a b g = some y := by
  unfold smF
  rw [List.find?_range_eq_some]
  exact ⟨by simp [hf], List.mem_range.2 (by omega), fun z hz => by simp [hlt z hz]⟩
theorem smF_none {xs : List (Int × Bool × Int × Int)} {i : Int} {d : Bool} {a b g : Int} (hlt : ∀ z : Nat, b + z ≤ 9999 → delA xs i d a b g z = true) : smF xs i d a b g = none := by
  unfold smF
  rw [List.find?_eq_none]
  intro z hz
  rw [List.mem_range] at hz
  simp [hlt z (by omega)]
theorem smF_some {xs : List (Int × Bool × Int × Int)} {i : Int} {d : Bool} {a b g : Int} {y : Nat} (h : smF xs i d a b g = some y) : b + y ≤ 9999 ∧ delA xs i d a b g y = false := by
  unfold smF at h
  rw [List.find?_range_eq_some] at h
  obtain ⟨h1, h2, _⟩ := h
  rw [List.mem_range] at h2
  exact ⟨by omega, by simpa using h1⟩
def delayV (xs : List (Int × Bool × Int × Int)) (i : Int) (d : Bool) (a b : Int) (g : Int) : Int × Bool := if vB pOk pLt 6 xs = true ∧ pasB i d a b = true ∧ gapB g = true ∧ xs.any (sameP i) = false then smD xs i d a b g else (0, false)
theorem vB_bdP {xs : List (Int × Bool × Int × Int)} (h : vB pOk pLt 6 xs = true) : ∀ k (hk : k < xs.length), bdP xs[k] := by
  intro k hk
  have := vB_at h k hk
  generalize xs[k] = x at *
  have := pasB_bd (show pasB x.1 x.2.1 x.2.2.1 x.2.2.2 = true from this)
  unfold bdP
  omega
def later (x : Int × Bool × Int × Int) (y : Int) : Int × Bool × Int × Int := (x.1, x.2.1, x.2.2.1 + y, x.2.2.2 + y)
/-- one passage more, delayed in turn -/
def turnS (g : Int) (o : Option (List (Int × Bool × Int × Int))) (x : Int × Bool × Int × Int) : Option (List (Int × Bool × Int × Int)) := o.bind fun out => (smF out x.1 x.2.1 x.2.2.1 x.2.2.2 g).map fun y => out ++ [later x y]
def turnF (g : Int) (xs : List (Int × Bool × Int × Int)) : Option (List (Int × Bool × Int × Int)) := xs.foldl (turnS g) (some [])
theorem turnS_none (g : Int) (xs : List (Int × Bool × Int × Int)) : xs.foldl (turnS g) none = none := by
  induction xs with
  | nil => rfl
  | cons x xs ih => exact ih
theorem turnF_bad {g : Int} {xs : List (Int × Bool × Int × Int)} {k : Nat} {out : List (Int × Bool × Int × Int)} (hk : k < xs.length) (h : turnF g (xs.take k) = some out) (hn : smF out xs[k].1 xs[k].2.1 xs[k].2.2.1 xs[k].2.2.2 g = none) : turnF g xs = none := by
  have e : xs = xs.take k ++ xs[k] :: xs.drop (k + 1) := by rw [List.getElem_cons_drop, List.take_append_drop]
  unfold turnF at h ⊢
  rw [e, List.foldl_append, h, List.foldl_cons]
  have : turnS g (some out) xs[k] = none := by simp [turnS, hn]
  rw [this]
  exact turnS_none g _
theorem turnF_step {g : Int} {xs : List (Int × Bool × Int × Int)} {k y : Nat} {out : List (Int × Bool × Int × Int)} (hk : k < xs.length) (h : turnF g (xs.take k) = some out) (hn : smF out xs[k].1 xs[k].2.1 xs[k].2.2.1 xs[k].2.2.2 g = some y) : turnF g (xs.take (k + 1)) = some (out ++ [later xs[k] y]) := by
  unfold turnF at h ⊢
  rw [List.take_succ_eq_append_getElem hk, List.foldl_append, h]
  simp [turnS, hn]
def turnV (xs : List (Int × Bool × Int × Int)) (g : Int) : List (Int × Bool × Int × Int) × Bool := if vB pOk pLt 6 xs = true ∧ gapB g = true then (match turnF g xs with | some l => (l, true) | none => ([], false)) else ([], false)

end Go.Proofs.Ytgjbdcalmodhpaa
