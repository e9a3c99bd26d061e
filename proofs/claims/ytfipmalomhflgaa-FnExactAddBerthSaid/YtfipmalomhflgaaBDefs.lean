import Derived.Test.YtfipmalomhflgaaDefs
import Derived.Test.YtfipmalomhflgaaVL
namespace Go.Proofs.Ytfipmalomhflgaa
set_option linter.unusedSimpArgs false
set_option linter.unusedVariables false
open Go.RowKit

def cBer (x : (Int × Int × Int × Int × Int)) : List Value := [.int .i64 (x.1), .int .i64 (x.2.1), .int .i64 (x.2.2.1), .int .i64 (x.2.2.2.1), .int .i64 (x.2.2.2.2)]
theorem cBer_len (x : (Int × Int × Int × Int × Int)) : (cBer x).length = 5 := rfl

def mkBer (n : Nat) (k : Int) : List (Int × Int × Int × Int × Int) := (List.range n).map fun (i : Nat) => (k + 5 * (i : Int), k + 5 * (i : Int) + 1, k + 5 * (i : Int) + 2, k + 5 * (i : Int) + 3, k + 5 * (i : Int) + 4)

theorem mkBer_len (n : Nat) (k : Int) : (mkBer n k).length = n := by simp [mkBer]
theorem mkBer_at (n : Nat) (k : Int) (j : Nat) (h : j < n) (h' : j < (mkBer n k).length) : (mkBer n k)[j] = (k + 5 * (j : Int), k + 5 * (j : Int) + 1, k + 5 * (j : Int) + 2, k + 5 * (j : Int) + 3, k + 5 * (j : Int) + 4) := by simp [mkBer]

theorem mkBer_snoc (j : Nat) (k : Int) : mkBer (j + 1) k = mkBer j k ++ [(k + 5 * (j : Int), k + 5 * (j : Int) + 1, k + 5 * (j : Int) + 2, k + 5 * (j : Int) + 3, k + 5 * (j : Int) + 4)] := by simp [mkBer, List.range_succ]

theorem news_Ber (w : World) (g : Nat) (x : (Int × Int × Int × Int × Int)) (h0 : w.cell? ⟨g, 0, none⟩ = some (.int .i64 (x.1))) (h1 : w.cell? ⟨g, 1, none⟩ = some (.int .i64 (x.2.1))) (h2 : w.cell? ⟨g, 2, none⟩ = some (.int .i64 (x.2.2.1))) (h3 : w.cell? ⟨g, 3, none⟩ = some (.int .i64 (x.2.2.2.1))) (h4 : w.cell? ⟨g, 4, none⟩ = some (.int .i64 (x.2.2.2.2))) : ∀ j u, (cBer x)[j]? = some u → w.cell? ⟨g, j, none⟩ = some u := by
  intro j u hu
  match j, hu with
  | 0, hu => cases hu; exact h0
  | 1, hu => cases hu; exact h1
  | 2, hu => cases hu; exact h2
  | 3, hu => cases hu; exact h3
  | 4, hu => cases hu; exact h4
  | j + 5, hu => simp [cBer] at hu

theorem one_Ber : ∀ x, ∀ u ∈ cBer x, u.oneCell' = true := by
  intro x u hu
  simp [cBer] at hu
  rcases hu with rfl | rfl | rfl | rfl | rfl <;> rfl

def cIn (x : (Int)) : List Value := [.int .i64 (x)]
theorem cIn_len (x : (Int)) : (cIn x).length = 1 := rfl

def mkIn (n : Nat) (k : Int) : List (Int) := (List.range n).map fun (i : Nat) => (k + (i : Int))

theorem mkIn_len (n : Nat) (k : Int) : (mkIn n k).length = n := by simp [mkIn]
theorem mkIn_at (n : Nat) (k : Int) (j : Nat) (h : j < n) (h' : j < (mkIn n k).length) : (mkIn n k)[j] = (k + (j : Int)) := by simp [mkIn]

theorem mkIn_snoc (j : Nat) (k : Int) : mkIn (j + 1) k = mkIn j k ++ [(k + (j : Int))] := by simp [mkIn, List.range_succ]

theorem news_In (w : World) (g : Nat) (x : (Int)) (h0 : w.cell? ⟨g, 0, none⟩ = some (.int .i64 (x))) : ∀ j u, (cIn x)[j]? = some u → w.cell? ⟨g, j, none⟩ = some u := by
  intro j u hu
  match j, hu with
  | 0, hu => cases hu; exact h0
  | j + 1, hu => simp [cIn] at hu

theorem one_In : ∀ x, ∀ u ∈ cIn x, u.oneCell' = true := by
  intro x u hu
  simp [cIn] at hu
  subst hu
  rfl

def berB (q i c l f t : Int) : Bool := decide (1 ≤ i ∧ i ≤ 99 ∧ 0 ≤ c ∧ 1 ≤ l ∧ c + l ≤ q ∧ 0 ≤ f ∧ f < t ∧ t ≤ 500)
theorem berB_bd {q i c l f t : Int} (h : berB q i c l f t = true) : 1 ≤ i ∧ i ≤ 99 ∧ 0 ≤ c ∧ 1 ≤ l ∧ c + l ≤ q ∧ 0 ≤ f ∧ f < t ∧ t ≤ 500 := by simpa [berB] using h
def berOk (q : Int) (x : Int × Int × Int × Int × Int) : Bool := berB q x.1 x.2.1 x.2.2.1 x.2.2.2.1 x.2.2.2.2
def crashB (c l f t c' l' f' t' : Int) : Bool := decide (c < c' + l' ∧ c' < c + l ∧ f < t' ∧ f' < t)
def crash (c l f t : Int) (x : Int × Int × Int × Int × Int) : Bool := crashB x.2.1 x.2.2.1 x.2.2.2.1 x.2.2.2.2 c l f t
def meets (xs : List (Int × Int × Int × Int × Int)) (c l f t : Int) : Bool := xs.any (crash c l f t)
def berAt (q : Int) (xs : List (Int × Int × Int × Int × Int)) (k : Nat) : Bool :=
  match xs[k]? with
  | some x => berOk q x && (match k with | 0 => true | k' + 1 => (match xs[k']? with | some y => decide (y.1 < x.1) | none => true)) && !(meets (xs.take k) x.2.1 x.2.2.1 x.2.2.2.1 x.2.2.2.2)
  | none => true
def berV (q : Int) (xs : List (Int × Int × Int × Int × Int)) : Bool := inB q 1 20 && (List.range xs.length).all (berAt q xs) && decide (xs.length ≤ 10)
section
variable {q : Int} {xs : List (Int × Int × Int × Int × Int)}
theorem berAt_zero (h : 0 < xs.length) : berAt q xs 0 = berOk q xs[0] := by simp [berAt, h, meets]
theorem berAt_succ (k : Nat) (h : k + 1 < xs.length) : berAt q xs (k + 1) = (berOk q xs[k + 1] && decide (xs[k].1 < xs[k + 1].1) && !(meets (xs.take (k + 1)) xs[k + 1].2.1 xs[k + 1].2.2.1 xs[k + 1].2.2.2.1 xs[k + 1].2.2.2.2)) := by
  have h' : k < xs.length := by omega
  simp [berAt, h, h']
theorem berV_quay (h : berV q xs = true) : inB q 1 20 = true := by
  simp only [berV, Bool.and_eq_true] at h
  exact h.1.1
theorem berV_noquay (h : inB q 1 20 = false) : berV q xs = false := by simp [berV, h]
theorem berV_bad {k : Nat} (h : k < xs.length) (hv : berAt q xs k = false) : berV q xs = false := by
  have : (List.range xs.length).all (berAt q xs) = false := by
    rw [List.all_eq_false]
    exact ⟨k, List.mem_range.2 h, by simp [hv]⟩
  simp [berV, this]
theorem berV_all (hq : inB q 1 20 = true) (h : ∀ j, j < xs.length → berAt q xs j = true) : berV q xs = decide (xs.length ≤ 10) := by
  have : (List.range xs.length).all (berAt q xs) = true := by
    rw [List.all_eq_true]
    exact fun j hj => h j (List.mem_range.1 hj)
  simp [berV, this, hq]
theorem berV_long (h : 10 < xs.length) : berV q xs = false := by
  simp only [berV, Bool.and_eq_false_iff, decide_eq_false_iff_not]
  right
  omega
theorem berV_len (h : berV q xs = true) : xs.length ≤ 10 := by
  simp only [berV, Bool.and_eq_true, decide_eq_true_eq] at h
  exact h.2
theorem berV_ats (h : berV q xs = true) (k : Nat) (hk : k < xs.length) : berAt q xs k = true := by
  simp only [berV, Bool.and_eq_true, List.all_eq_true, List.mem_range] at h
  exact h.1.2 k hk
theorem berAt_ok {k : Nat} (hk : k < xs.length) (h : berAt q xs k = true) : berOk q xs[k] = true := by
  cases k with
  | zero => rwa [berAt_zero hk] at h
  | succ k =>
    rw [berAt_succ k hk] at h
    simp only [Bool.and_eq_true] at h
    exact h.1.1
theorem berAt_lt {k : Nat} (hk : k + 1 < xs.length) (h : berAt q xs (k + 1) = true) : xs[k].1 < xs[k + 1].1 := by
  rw [berAt_succ k hk] at h
  simp only [Bool.and_eq_true, decide_eq_true_eq] at h
  exact h.1.2
theorem berAt_free {k : Nat} (hk : k < xs.length) (h : berAt q xs k = true) : meets (xs.take k) xs[k].2.1 xs[k].2.2.1 xs[k].2.2.2.1 xs[k].2.2.2.2 = false := by
  cases k with
  | zero => simp [meets]
  | succ k =>
    rw [berAt_succ k hk] at h
    simp only [Bool.and_eq_true, Bool.not_eq_true'] at h
    exact h.2
theorem berV_at (h : berV q xs = true) (k : Nat) (hk : k < xs.length) : berOk q xs[k] = true := berAt_ok hk (berV_ats h k hk)
theorem berV_mem (h : berV q xs = true) : ∀ x ∈ xs, berOk q x = true := by
  intro x hx
  obtain ⟨i, hi, rfl⟩ := List.getElem_of_mem hx
  exact berV_at h i hi
theorem berV_lt (h : berV q xs = true) (k : Nat) (hk : k + 1 < xs.length) : xs[k].1 < xs[k + 1].1 := berAt_lt hk (berV_ats h _ hk)
end
/-- what a contract needs of a berth that is held against another: its length and its stay are at least one, all small -/
def berP (x : Int × Int × Int × Int × Int) : Prop := 0 ≤ x.2.1 ∧ x.2.1 ≤ 20 ∧ 1 ≤ x.2.2.1 ∧ x.2.2.1 ≤ 20 ∧ 0 ≤ x.2.2.2.1 ∧ x.2.2.2.1 < x.2.2.2.2 ∧ x.2.2.2.2 ≤ 500
theorem berOk_bd {q : Int} {x : Int × Int × Int × Int × Int} (h : berOk q x = true) : 1 ≤ x.1 ∧ x.1 ≤ 99 ∧ 0 ≤ x.2.1 ∧ 1 ≤ x.2.2.1 ∧ x.2.1 + x.2.2.1 ≤ q ∧ 0 ≤ x.2.2.2.1 ∧ x.2.2.2.1 < x.2.2.2.2 ∧ x.2.2.2.2 ≤ 500 := berB_bd h
theorem berOk_P {q : Int} {x : Int × Int × Int × Int × Int} (hq : inB q 1 20 = true) (h : berOk q x = true) : berP x := by
  have h1 := berOk_bd h
  have h2 := inB_bd hq
  unfold berP
  omega
theorem berV_P {q : Int} {xs : List (Int × Int × Int × Int × Int)} (h : berV q xs = true) : ∀ k (hk : k < xs.length), berP xs[k] := fun k hk => berOk_P (berV_quay h) (berV_at h k hk)
/-- the hours that all vessels lie at all cells -/
def hoursS (s : Int) (x : Int × Int × Int × Int × Int) : Int := s + x.2.2.1 * (x.2.2.2.2 - x.2.2.2.1)
def hoursTo (xs : List (Int × Int × Int × Int × Int)) (k : Nat) : Int := (xs.take k).foldl hoursS 0
theorem hoursTo_succ (xs : List (Int × Int × Int × Int × Int)) (k : Nat) (h : k < xs.length) : hoursTo xs (k + 1) = hoursTo xs k + xs[k].2.2.1 * (xs[k].2.2.2.2 - xs[k].2.2.2.1) := by
  unfold hoursTo
  rw [List.take_succ_eq_append_getElem h, List.foldl_append]; rfl
def hoursV (q : Int) (xs : List (Int × Int × Int × Int × Int)) : Int × Bool := if berV q xs = true then (hoursTo xs xs.length, true) else (0, false)
theorem mulB {l d : Int} (hl : 0 ≤ l ∧ l ≤ 20) (hd : 0 ≤ d ∧ d ≤ 500) : 0 ≤ l * d ∧ l * d ≤ 10000 := by
  constructor
  · exact Int.mul_nonneg hl.1 hd.1
  · have h1 := Int.mul_le_mul hl.2 hd.2 hd.1 (by omega)
    omega
theorem hoursTo_bd {q : Int} {xs : List (Int × Int × Int × Int × Int)} (h : berV q xs = true) : ∀ k : Nat, k ≤ xs.length → 0 ≤ hoursTo xs k ∧ hoursTo xs k ≤ 10000 * k
  | 0, _ => by simp [hoursTo]
  | k + 1, hk => by
    have ih := hoursTo_bd h k (by omega)
    have hlt : k < xs.length := by omega
    have hb := berOk_bd (berV_at h k hlt)
    have hq := inB_bd (berV_quay h)
    rw [hoursTo_succ xs k hlt]
    have := mulB (l := xs[k].2.2.1) (d := xs[k].2.2.2.2 - xs[k].2.2.2.1) (by omega) (by omega)
    omega
/-- a cell in an hour is free -/
def freeAt (xs : List (Int × Int × Int × Int × Int)) (c h : Int) : Bool := !meets xs c 1 h (h + 1)
def freeTo (xs : List (Int × Int × Int × Int × Int)) (h : Int) (n : Nat) : List Int := ((List.range n).filter fun c : Nat => freeAt xs c h).map fun c : Nat => (c : Int)
theorem freeTo_succ (xs : List (Int × Int × Int × Int × Int)) (h : Int) (n : Nat) : freeTo xs h (n + 1) = freeTo xs h n ++ (if freeAt xs n h = true then [(n : Int)] else []) := by
  unfold freeTo
  rw [List.range_succ, List.filter_append, List.map_append]
  by_cases hc : freeAt xs n h = true
  · simp [hc]
  · simp [hc]
theorem freeTo_len (xs : List (Int × Int × Int × Int × Int)) (h : Int) (n : Nat) : (freeTo xs h n).length ≤ n := by
  unfold freeTo
  rw [List.length_map]
  exact Nat.le_trans (List.length_filter_le _ _) (by simp)
def freeV (q : Int) (xs : List (Int × Int × Int × Int × Int)) (h : Int) : List Int × Bool := if berV q xs = true ∧ inB h 0 499 = true then (freeTo xs h q.toNat, true) else ([], false)
theorem freeV_len (q : Int) (xs : List (Int × Int × Int × Int × Int)) (h : Int) : (freeV q xs h).1.length ≤ 20 := by
  unfold freeV
  by_cases hv : berV q xs = true ∧ inB h 0 499 = true
  · rw [if_pos hv]
    have h1 := freeTo_len xs h q.toNat
    have h2 := inB_bd (berV_quay hv.1)
    simp only
    omega
  · rw [if_neg hv]; simp
/-- the first cell of the n first at which a vessel can lie from an hour on -/
def rowFree (xs : List (Int × Int × Int × Int × Int)) (l s h : Int) (n : Nat) : Option Nat := (List.range n).find? fun c : Nat => !meets xs c l h (h + s)
def earlyF (q : Int) (xs : List (Int × Int × Int × Int × Int)) (l s f : Int) : Option (Nat × Nat) :=
  (List.range (501 - s - f).toNat).findSome? fun j : Nat => (rowFree xs l s (f + j) (q - l + 1).toNat).map fun c => (j, c)
def earlyR (f : Int) (r : Option (Nat × Nat)) : Int × Int × Bool := match r with | some (j, c) => (f + j, (c : Int), true) | none => (0, 0, false)
def earlyV (q : Int) (xs : List (Int × Int × Int × Int × Int)) (l s f : Int) : Int × Int × Bool :=
  if berV q xs = true ∧ 1 ≤ l ∧ 1 ≤ s ∧ 0 ≤ f ∧ f ≤ 500 then earlyR f (earlyF q xs l s f) else (0, 0, false)
theorem find_range_hit {n : Nat} {p : Nat → Bool} {c : Nat} (hc : c < n) (hl : ∀ i, i < c → p i = false) (hp : p c = true) : (List.range n).find? p = some c := by
  rw [List.find?_eq_some_iff_getElem]
  refine ⟨hp, c, by simpa using hc, by simp, fun j hj => ?_⟩
  simp [hl j hj]
theorem find_range_none {n : Nat} {p : Nat → Bool} (hl : ∀ i, i < n → p i = false) : (List.range n).find? p = none := by
  rw [List.find?_eq_none]
  intro x hx
  simp [hl x (List.mem_range.1 hx)]
theorem rowFree_hit {xs : List (Int × Int × Int × Int × Int)} {l s h : Int} {n c : Nat} (hc : c < n) (hl : ∀ i : Nat, i < c → meets xs i l h (h + s) = true) (hp : meets xs c l h (h + s) = false) : rowFree xs l s h n = some c := by
  unfold rowFree
  exact find_range_hit hc (fun i hi => by simp [hl i hi]) (by simp [hp])
theorem rowFree_none {xs : List (Int × Int × Int × Int × Int)} {l s h : Int} {n : Nat} (hl : ∀ i : Nat, i < n → meets xs i l h (h + s) = true) : rowFree xs l s h n = none := by
  unfold rowFree
  exact find_range_none (fun i hi => by simp [hl i hi])
theorem findSome_range_hit {β : Type} {f : Nat → Option β} {c : Nat} {b : β} (hl : ∀ i, i < c → f i = none) (hp : f c = some b) : ∀ n, c < n → (List.range n).findSome? f = some b := by
  intro n
  induction n with
  | zero => intro h; exact absurd h (Nat.not_lt_zero _)
  | succ n ih =>
    intro h
    rw [List.range_succ, List.findSome?_append]
    by_cases hc : c < n
    · rw [ih hc]; rfl
    · have : c = n := by omega
      subst this
      have : (List.range c).findSome? f = none := by
        rw [List.findSome?_eq_none_iff]
        exact fun x hx => hl x (List.mem_range.1 hx)
      rw [this]
      simp [hp]
theorem earlyF_hit {q : Int} {xs : List (Int × Int × Int × Int × Int)} {l s f : Int} {j c : Nat} (hj : f + j + s ≤ 500) (hl : ∀ i : Nat, i < j → rowFree xs l s (f + i) (q - l + 1).toNat = none) (hp : rowFree xs l s (f + j) (q - l + 1).toNat = some c) : earlyF q xs l s f = some (j, c) := by
  unfold earlyF
  refine findSome_range_hit (c := j) (fun i hi => ?_) ?_ _ (by omega)
  · rw [hl i hi]; rfl
  · rw [hp]; rfl
theorem earlyF_none {q : Int} {xs : List (Int × Int × Int × Int × Int)} {l s f : Int} (hl : ∀ i : Nat, f + i + s ≤ 500 → rowFree xs l s (f + i) (q - l + 1).toNat = none) : earlyF q xs l s f = none := by
  unfold earlyF
  rw [List.findSome?_eq_none_iff]
  intro x hx
  have := List.mem_range.1 hx
  rw [hl x (by omega)]; rfl
theorem earlyF_big {q : Int} {xs : List (Int × Int × Int × Int × Int)} {l s f : Int} (h : q < l ∨ 500 < s + f) : earlyF q xs l s f = none := by
  rcases h with h | h
  · refine earlyF_none fun i _ => rowFree_none fun c hc => absurd hc (by omega)
  · refine earlyF_none fun i hi => absurd hi (by omega)
/-- best, most and the free hours that end with the last one seen -/
def longS (xs : List (Int × Int × Int × Int × Int)) (c : Int) (a : Int × Int × Int) (h : Nat) : Int × Int × Int :=
  let n := if freeAt xs c h = true then a.2.2 + 1 else 0
  if a.2.1 < n then ((h : Int) - n + 1, n, n) else (a.1, a.2.1, n)
def longTo (xs : List (Int × Int × Int × Int × Int)) (c : Int) (k : Nat) : Int × Int × Int := (List.range k).foldl (longS xs c) (0, 0, 0)
theorem longTo_succ (xs : List (Int × Int × Int × Int × Int)) (c : Int) (k : Nat) : longTo xs c (k + 1) = longS xs c (longTo xs c k) k := by
  unfold longTo
  rw [List.range_succ, List.foldl_append]; rfl
def longOk (k : Nat) (a : Int × Int × Int) : Prop := 0 ≤ a.1 ∧ a.1 ≤ k ∧ 0 ≤ a.2.1 ∧ a.2.1 ≤ k ∧ 0 ≤ a.2.2 ∧ a.2.2 ≤ k ∧ (a.2.1 = 0 → a.1 = 0)
theorem longTo_ok (xs : List (Int × Int × Int × Int × Int)) (c : Int) : ∀ k, longOk k (longTo xs c k)
  | 0 => by simp [longOk, longTo]
  | k + 1 => by
    have ih := longTo_ok xs c k
    rw [longTo_succ]
    generalize longTo xs c k = a at *
    unfold longOk longS at *
    by_cases hf : freeAt xs c k = true
    · simp only [hf, if_true]
      split <;> (simp only; omega)
    · simp only [hf, Bool.false_eq_true, if_false]
      split <;> first | omega | (simp only; omega)
def longV (q : Int) (xs : List (Int × Int × Int × Int × Int)) (c : Int) : Int × Int × Bool :=
  if berV q xs = true ∧ inB c 0 (q - 1) = true then ((longTo xs c 500).1, (longTo xs c 500).2.1, decide (0 < (longTo xs c 500).2.1)) else (0, 0, false)
/-- the cells that are taken in an hour -/
def usedS (h : Int) (s : Int) (x : Int × Int × Int × Int × Int) : Int := if x.2.2.2.1 ≤ h ∧ h ≤ x.2.2.2.2 - 1 then s + x.2.2.1 else s
def usedTo (xs : List (Int × Int × Int × Int × Int)) (h : Int) (k : Nat) : Int := (xs.take k).foldl (usedS h) 0
theorem usedTo_succ (xs : List (Int × Int × Int × Int × Int)) (h : Int) (k : Nat) (hk : k < xs.length) : usedTo xs h (k + 1) = usedS h (usedTo xs h k) xs[k] := by
  unfold usedTo
  rw [List.take_succ_eq_append_getElem hk, List.foldl_append]; rfl
def cnt (p : Nat → Bool) (n : Nat) : Nat := ((List.range n).filter p).length
theorem cnt_succ (p : Nat → Bool) (n : Nat) : cnt p (n + 1) = cnt p n + if p n = true then 1 else 0 := by
  unfold cnt
  rw [List.range_succ, List.filter_append, List.length_append]
  by_cases h : p n = true
  · simp [h]
  · simp [h]
theorem cnt_cut (p : Nat → Bool) (a b : Nat) (hab : a ≤ b) (hp : ∀ i, a ≤ i → i < b → p i = true) : ∀ n, cnt (fun i => p i && !(decide (a ≤ i ∧ i < b))) n + (min n b - min n a) = cnt p n
  | 0 => by simp [cnt]
  | n + 1 => by
    have ih := cnt_cut p a b hab hp n
    rw [cnt_succ, cnt_succ]
    by_cases h : a ≤ n ∧ n < b
    · have := hp n h.1 h.2
      simp only [this, h, and_self, decide_true, Bool.not_true, Bool.and_false]
      simp only [Bool.false_eq_true, if_false, if_true]
      omega
    · simp only [h, decide_false, Bool.not_false, Bool.and_true]
      omega
theorem meets_snoc (xs : List (Int × Int × Int × Int × Int)) (k : Nat) (hk : k < xs.length) (c l f t : Int) : meets (xs.take (k + 1)) c l f t = (meets (xs.take k) c l f t || crash c l f t xs[k]) := by
  unfold meets
  rw [List.take_succ_eq_append_getElem hk, List.any_append]; simp
theorem meets_hit {xs : List (Int × Int × Int × Int × Int)} {k m : Nat} {c l f t : Int} (hm : m < k) (hl : m < xs.length) (h : crash c l f t xs[m] = true) : meets (xs.take k) c l f t = true := by
  unfold meets
  rw [List.any_eq_true]
  exact ⟨xs[m], List.mem_take_iff_getElem.2 ⟨m, by omega, rfl⟩, h⟩
theorem crash_one {x : Int × Int × Int × Int × Int} {c h : Int} : crash c 1 h (h + 1) x = decide (x.2.1 ≤ c ∧ c < x.2.1 + x.2.2.1 ∧ x.2.2.2.1 ≤ h ∧ h ≤ x.2.2.2.2 - 1) := by
  unfold crash crashB
  congr 1
  simp only [eq_iff_iff]
  omega
theorem used_free {q : Int} {xs : List (Int × Int × Int × Int × Int)} (hv : berV q xs = true) (h : Int) : ∀ k, k ≤ xs.length → (cnt (fun c => freeAt (xs.take k) c h) q.toNat : Int) + usedTo xs h k = q ∧ 0 ≤ usedTo xs h k
  | 0, _ => by
    have hq := inB_bd (berV_quay hv)
    have : cnt (fun c => freeAt (xs.take 0) c h) q.toNat = q.toNat := by
      have he : (fun c : Nat => freeAt (xs.take 0) c h) = fun _ => true := by
        funext c
        simp [freeAt, meets]
      rw [he]
      unfold cnt
      rw [List.filter_eq_self.2 (fun _ _ => rfl)]
      simp
    rw [this]
    simp [usedTo]
    omega
  | k + 1, hk => by
    have ih := used_free hv h k (by omega)
    have hlt : k < xs.length := by omega
    have hfr := berAt_free hlt (berV_ats hv k hlt)
    have hok := berOk_bd (berV_at hv k hlt)
    rw [usedTo_succ xs h k hlt]
    have hs : ∀ c : Nat, freeAt (xs.take (k + 1)) c h = (freeAt (xs.take k) c h && !crash c 1 h (h + 1) xs[k]) := by
      intro c
      unfold freeAt
      rw [meets_snoc xs k hlt]
      simp
    generalize xs[k] = x at *
    unfold usedS
    by_cases hin : x.2.2.2.1 ≤ h ∧ h ≤ x.2.2.2.2 - 1
    · rw [if_pos hin]
      have he : (fun c : Nat => freeAt (xs.take (k + 1)) c h) = fun c : Nat => freeAt (xs.take k) c h && !(decide (x.2.1.toNat ≤ c ∧ c < (x.2.1 + x.2.2.1).toNat)) := by
        funext c
        rw [hs c, crash_one]
        congr 2
        simp only [decide_eq_decide]
        omega
      have hc := cnt_cut (fun c : Nat => freeAt (xs.take k) c h) x.2.1.toNat (x.2.1 + x.2.2.1).toNat (by omega) (fun i h1 h2 => by
        unfold freeAt
        cases hm : meets (xs.take k) i 1 h (h + 1) with
        | false => rfl
        | true =>
          exfalso
          unfold meets at hm hfr
          rw [List.any_eq_true] at hm
          obtain ⟨y, hy, hcy⟩ := hm
          rw [List.any_eq_false] at hfr
          refine hfr y hy ?_
          rw [crash_one] at hcy
          simp only [decide_eq_true_eq] at hcy
          simp only [crash, crashB, decide_eq_true_eq]
          omega) q.toNat
      rw [he]
      omega
    · rw [if_neg hin]
      have he : (fun c : Nat => freeAt (xs.take (k + 1)) c h) = fun c : Nat => freeAt (xs.take k) c h := by
        funext c
        rw [hs c, crash_one]
        have : decide (x.2.1 ≤ (c : Int) ∧ (c : Int) < x.2.1 + x.2.2.1 ∧ x.2.2.2.1 ≤ h ∧ h ≤ x.2.2.2.2 - 1) = false := by
          simp only [decide_eq_false_iff_not]
          omega
        rw [this]
        simp
      rw [he]
      omega
theorem freeTo_cnt (xs : List (Int × Int × Int × Int × Int)) (h : Int) (n : Nat) : (freeTo xs h n).length = cnt (fun c => freeAt xs c h) n := by simp [freeTo, cnt]
/-- an hour is full by the one count just if it is by the other -/
theorem full_iff {q : Int} {xs : List (Int × Int × Int × Int × Int)} (hv : berV q xs = true) (h : Int) : usedTo xs h xs.length = q ↔ (freeTo xs h q.toNat).length = 0 := by
  have h1 := used_free hv h xs.length (Nat.le_refl _)
  rw [List.take_length] at h1
  rw [freeTo_cnt]
  omega
theorem usedTo_bd {q : Int} {xs : List (Int × Int × Int × Int × Int)} (hv : berV q xs = true) (h : Int) (k : Nat) (hk : k ≤ xs.length) : 0 ≤ usedTo xs h k ∧ usedTo xs h k ≤ 20 := by
  have h1 := used_free hv h k hk
  have h2 := inB_bd (berV_quay hv)
  omega
def fullTo (q : Int) (xs : List (Int × Int × Int × Int × Int)) (n : Nat) : Nat := cnt (fun h => decide ((freeTo xs h q.toNat).length = 0)) n
theorem fullTo_succ (q : Int) (xs : List (Int × Int × Int × Int × Int)) (n : Nat) : fullTo q xs (n + 1) = fullTo q xs n + (if (freeTo xs n q.toNat).length = 0 then 1 else 0) := by
  unfold fullTo
  rw [cnt_succ]
  simp
theorem fullTo_le (q : Int) (xs : List (Int × Int × Int × Int × Int)) (n : Nat) : fullTo q xs n ≤ n := by
  unfold fullTo cnt
  exact Nat.le_trans (List.length_filter_le _ _) (by simp)
def fullV (q : Int) (xs : List (Int × Int × Int × Int × Int)) : Int × Bool := if berV q xs = true then ((fullTo q xs 500 : Nat), true) else (0, false)
/-- the berth with an Id ends at an hour -/
def findId (xs : List (Int × Int × Int × Int × Int)) (id : Int) : Option Nat := xs.findIdx? fun x => decide (x.1 = id)
def endAt (x : Int × Int × Int × Int × Int) (h : Int) : Int × Int × Int × Int × Int := (x.1, x.2.1, x.2.2.1, x.2.2.2.1, h)
def leaveL (xs : List (Int × Int × Int × Int × Int)) (id h : Int) : Option (List (Int × Int × Int × Int × Int)) :=
  match findId xs id with
  | some i => (match xs[i]? with | some x => if x.2.2.2.1 + 1 ≤ h ∧ h ≤ x.2.2.2.2 - 1 then some (xs.set i (endAt x h)) else none | none => none)
  | none => none
def leaveV (q : Int) (xs : List (Int × Int × Int × Int × Int)) (id h : Int) : List (Int × Int × Int × Int × Int) × Bool :=
  if berV q xs = true then (match leaveL xs id h with | some l => (l, true) | none => ([], false)) else ([], false)

theorem info_In : (Try.prog.info? 3).map (fun i => (i.zero, i.size, i.bytes)) = some (some (.int .i64 0), 1, 8) := by kernel_rfl

end Go.Proofs.Ytfipmalomhflgaa
