import Derived.Test.YtipipicfkjigdaaSL0
import Derived.Test.YtipipicfkjigdaaH6
namespace Go.Proofs.Ytipipicfkjigdaa
set_option linter.unusedSimpArgs false
set_option linter.unusedVariables false
open Go.RowKit

/-- what is known of the tugs: each one's place, and the tick from which it is free -/
abbrev TowS := (Int → Int) × (Int → Int)
abbrev TugT := Int × Int × Int
abbrev JobT := Int × Int × Int × Int × Int
def t0 : TugT := (0, 0, 0)
def j0 : JobT := (0, 0, 0, 0, 0)
def plK (ts : List TugT) : Nat → Int → Int
  | 0, _ => 0
  | k + 1, i => if i = (ts.getD k t0).1 then (ts.getD k t0).2.1 else plK ts k i
def wayS (S : TowS) (j : JobT) (x : Int) : Int := absI (S.1 x - j.2.1)
def runJ (j : JobT) : Int := absI (j.2.1 - j.2.2.1)
def begS (S : TowS) (j : JobT) (x : Int) : Int := max (S.2 x + wayS S j x) j.2.2.2.2
def stepS (S : TowS) (j : JobT) (x : Int) : TowS := (fun i => if i = x then j.2.2.1 else S.1 i, fun i => if i = x then begS S j x + runJ j else S.2 i)
def towS (ts : List TugT) (js : List JobT) (who : List Int) : Nat → TowS
  | 0 => (plK ts ts.length, fun _ => 0)
  | k + 1 => stepS (towS ts js who k) (js.getD k j0) (who.getD k 0)
def begK (ts : List TugT) (js : List JobT) (who : List Int) (k : Nat) : Int := begS (towS ts js who k) (js.getD k j0) (who.getD k 0)
def endK (ts : List TugT) (js : List JobT) (who : List Int) (k : Nat) : Int := begK ts js who k + runJ (js.getD k j0)
def begsK (ts : List TugT) (js : List JobT) (who : List Int) (n : Nat) : List Int := (List.range n).map (begK ts js who)
def endsK (ts : List TugT) (js : List JobT) (who : List Int) (n : Nat) : List Int := (List.range n).map (endK ts js who)
def waitK (ts : List TugT) (js : List JobT) (who : List Int) : Nat → Int
  | 0 => 0
  | k + 1 => waitK ts js who k + (begK ts js who k - (js.getD k j0).2.2.2.2)
def towdK (ts : List TugT) (js : List JobT) (who : List Int) : Nat → Int → Int
  | 0, _ => 0
  | k + 1, i => if i = who.getD k 0 then towdK ts js who k i + runJ (js.getD k j0) else towdK ts js who k i
def othK (ts : List TugT) (js : List JobT) (who : List Int) : Nat → Int → Int
  | 0, _ => 0
  | k + 1, i => if i = who.getD k 0 then othK ts js who k i + wayS (towS ts js who k) (js.getD k j0) (who.getD k 0) else othK ts js who k i
def maxK (ts : List TugT) (js : List JobT) (who : List Int) : Nat → Int
  | 0 => 0
  | k + 1 => max (maxK ts js who k) (endK ts js who k)
def idIs (x : Int) (t : TugT) : Bool := decide (t.1 = x)
def tix (ts : List TugT) (x : Int) : Int := idxF (idIs x) ts
def whoOk (ts : List TugT) (x p : Int) : Bool := decide (0 ≤ tix ts x ∧ p ≤ (ts.getD (tix ts x).toNat t0).2.2)
def whoB (ts : List TugT) (js : List JobT) (who : List Int) (n : Nat) : Bool := (List.range n).all fun i => whoOk ts (who.getD i 0) (js.getD i j0).2.2.2.1
def tplanB (ts : List TugT) (js : List JobT) (who : List Int) : Bool := vB tugOk tugLt 4 ts && vB jobOk jobLt 5 js && decide (who.length = js.length) && whoB ts js who who.length
section
variable {ts : List TugT} {js : List JobT} {who : List Int}
theorem endsK_len (n : Nat) : (endsK ts js who n).length = n := by simp [endsK]
theorem begsK_len (n : Nat) : (begsK ts js who n).length = n := by simp [begsK]
theorem endsK_succ (n : Nat) : endsK ts js who (n + 1) = endsK ts js who n ++ [endK ts js who n] := by simp [endsK, List.range_succ]
theorem begsK_succ (n : Nat) : begsK ts js who (n + 1) = begsK ts js who n ++ [begK ts js who n] := by simp [begsK, List.range_succ]
theorem absI_bd {a b : Int} (ha : 0 ≤ a ∧ a ≤ 600) (hb : 0 ≤ b ∧ b ≤ 600) : 0 ≤ absI (a - b) ∧ absI (a - b) ≤ 600 := by unfold absI; omega
theorem jobOk_bd {x : JobT} (h : jobOk x = true) : 1 ≤ x.1 ∧ x.1 ≤ 99 ∧ 0 ≤ x.2.1 ∧ x.2.1 ≤ 600 ∧ 0 ≤ x.2.2.1 ∧ x.2.2.1 ≤ 600 ∧ 1 ≤ x.2.2.2.1 ∧ x.2.2.2.1 ≤ 9 ∧ 0 ≤ x.2.2.2.2 ∧ x.2.2.2.2 ≤ 500 := jobB_bd h
theorem getD_job (hj : vB jobOk jobLt 5 js = true) (k : Nat) : 0 ≤ (js.getD k j0).2.1 ∧ (js.getD k j0).2.1 ≤ 600 ∧ 0 ≤ (js.getD k j0).2.2.1 ∧ (js.getD k j0).2.2.1 ≤ 600 ∧ 0 ≤ (js.getD k j0).2.2.2.2 ∧ (js.getD k j0).2.2.2.2 ≤ 500 := by
  by_cases h : k < js.length
  · have := jobOk_bd (vB_at hj k h)
    rw [List.getD_eq_getElem?_getD, List.getElem?_eq_getElem h, Option.getD_some]
    omega
  · rw [List.getD_eq_getElem?_getD, List.getElem?_eq_none (by omega), Option.getD_none]
    simp [j0]
theorem getD_tug (ht : vB tugOk tugLt 4 ts = true) (k : Nat) : 0 ≤ (ts.getD k t0).2.1 ∧ (ts.getD k t0).2.1 ≤ 600 := by
  by_cases h : k < ts.length
  · have := tugOk_bd (vB_at ht k h)
    rw [List.getD_eq_getElem?_getD, List.getElem?_eq_getElem h, Option.getD_some]
    omega
  · rw [List.getD_eq_getElem?_getD, List.getElem?_eq_none (by omega), Option.getD_none]
    simp [t0]
theorem plK_bd (ht : vB tugOk tugLt 4 ts = true) : ∀ k i, 0 ≤ plK ts k i ∧ plK ts k i ≤ 600
  | 0, _ => by simp [plK]
  | k + 1, i => by
    have := plK_bd ht k i
    have := getD_tug ht k
    unfold plK
    split <;> omega
theorem runJ_bd (hj : vB jobOk jobLt 5 js = true) (k : Nat) : 0 ≤ runJ (js.getD k j0) ∧ runJ (js.getD k j0) ≤ 600 := by
  have := getD_job hj k
  exact absI_bd (by omega) (by omega)
theorem towS_bd (ht : vB tugOk tugLt 4 ts = true) (hj : vB jobOk jobLt 5 js = true) : ∀ k i, (0 ≤ (towS ts js who k).1 i ∧ (towS ts js who k).1 i ≤ 600) ∧ 0 ≤ (towS ts js who k).2 i ∧ (towS ts js who k).2 i ≤ 500 + 1200 * k
  | 0, i => ⟨plK_bd ht _ i, by simp [towS]⟩
  | k + 1, i => by
    have h1 := towS_bd ht hj k i
    have h2 := towS_bd ht hj k (who.getD k 0)
    have h3 := getD_job hj k
    have h4 := runJ_bd hj k
    have h5 := absI_bd h2.1 ⟨h3.1, h3.2.1⟩
    refine ⟨?_, ?_⟩
    · show 0 ≤ (if i = who.getD k 0 then (js.getD k j0).2.2.1 else (towS ts js who k).1 i) ∧ (if i = who.getD k 0 then (js.getD k j0).2.2.1 else (towS ts js who k).1 i) ≤ 600
      split <;> omega
    · show 0 ≤ (if i = who.getD k 0 then begS (towS ts js who k) (js.getD k j0) (who.getD k 0) + runJ (js.getD k j0) else (towS ts js who k).2 i) ∧ (if i = who.getD k 0 then begS (towS ts js who k) (js.getD k j0) (who.getD k 0) + runJ (js.getD k j0) else (towS ts js who k).2 i) ≤ 500 + 1200 * ((k + 1 : Nat) : Int)
      split
      · unfold begS wayS
        omega
      · omega
theorem wayK_bd (ht : vB tugOk tugLt 4 ts = true) (hj : vB jobOk jobLt 5 js = true) (k : Nat) (x : Int) : 0 ≤ wayS (towS ts js who k) (js.getD k j0) x ∧ wayS (towS ts js who k) (js.getD k j0) x ≤ 600 := by
  have h2 := towS_bd (who := who) ht hj k x
  have h3 := getD_job hj k
  exact absI_bd h2.1 ⟨h3.1, h3.2.1⟩
theorem begK_bd (ht : vB tugOk tugLt 4 ts = true) (hj : vB jobOk jobLt 5 js = true) (k : Nat) : (js.getD k j0).2.2.2.2 ≤ begK ts js who k ∧ begK ts js who k ≤ 1100 + 1200 * k := by
  have h1 := wayK_bd (who := who) ht hj k (who.getD k 0)
  have h2 := towS_bd (who := who) ht hj k (who.getD k 0)
  have h3 := getD_job hj k
  unfold begK begS
  omega
theorem endK_bd (ht : vB tugOk tugLt 4 ts = true) (hj : vB jobOk jobLt 5 js = true) (k : Nat) : 0 ≤ endK ts js who k ∧ endK ts js who k ≤ 1700 + 1200 * k := by
  have h1 := begK_bd (who := who) ht hj k
  have h2 := runJ_bd hj k
  have h3 := getD_job hj k
  unfold endK
  omega
theorem waitK_bd (ht : vB tugOk tugLt 4 ts = true) (hj : vB jobOk jobLt 5 js = true) : ∀ k : Nat, k ≤ 5 → 0 ≤ waitK ts js who k ∧ waitK ts js who k ≤ 10000 * k
  | 0, _ => by simp [waitK]
  | k + 1, hk => by
    have h1 := waitK_bd ht hj k (by omega)
    have h2 := begK_bd (who := who) ht hj k
    have h3 := getD_job hj k
    unfold waitK
    omega
theorem maxK_bd (ht : vB tugOk tugLt 4 ts = true) (hj : vB jobOk jobLt 5 js = true) : ∀ k : Nat, k ≤ 5 → 0 ≤ maxK ts js who k ∧ maxK ts js who k ≤ 10000
  | 0, _ => by simp [maxK]
  | k + 1, hk => by
    have h1 := maxK_bd ht hj k (by omega)
    have h2 := endK_bd (who := who) ht hj k
    unfold maxK
    omega
theorem towdK_bd (hj : vB jobOk jobLt 5 js = true) : ∀ (k : Nat) (i : Int), 0 ≤ towdK ts js who k i ∧ towdK ts js who k i ≤ 600 * k
  | 0, _ => by simp [towdK]
  | k + 1, i => by
    have h1 := towdK_bd hj k i
    have h2 := runJ_bd hj k
    unfold towdK
    split <;> omega
theorem othK_bd (ht : vB tugOk tugLt 4 ts = true) (hj : vB jobOk jobLt 5 js = true) : ∀ (k : Nat) (i : Int), 0 ≤ othK ts js who k i ∧ othK ts js who k i ≤ 600 * k
  | 0, _ => by simp [othK]
  | k + 1, i => by
    have h1 := othK_bd ht hj k i
    have h2 := wayK_bd (who := who) ht hj k (who.getD k 0)
    unfold othK
    split <;> omega
/-- the Ids rise -/
theorem ids_lt (ht : vB tugOk tugLt 4 ts = true) : ∀ (d a : Nat) (h : a + 1 + d < ts.length), ts[a].1 < ts[a + 1 + d].1
  | 0, a, h => by simpa [tugLt] using vB_lt ht a (by omega)
  | d + 1, a, h => by
    have h1 := ids_lt ht d a (by omega)
    have h2 := vB_lt ht (a + 1 + d) (by omega)
    simp only [tugLt, decide_eq_true_eq] at h2
    exact Int.lt_trans h1 h2
theorem ids_inj (ht : vB tugOk tugLt 4 ts = true) {a b : Nat} (ha : a < ts.length) (hb : b < ts.length) (e : ts[a].1 = ts[b].1) : a = b := by
  rcases Nat.lt_trichotomy a b with h | h | h
  · have := ids_lt ht (b - a - 1) a (by omega)
    simp only [show a + 1 + (b - a - 1) = b by omega] at this
    omega
  · exact h
  · have := ids_lt ht (a - b - 1) b (by omega)
    simp only [show b + 1 + (a - b - 1) = a by omega] at this
    omega
theorem plK_at (ht : vB tugOk tugLt 4 ts = true) (i : Nat) (hi : i < ts.length) : ∀ k : Nat, i < k → k ≤ ts.length → plK ts k ts[i].1 = ts[i].2.1
  | 0, h, _ => by omega
  | k + 1, h, hk => by
    unfold plK
    rw [List.getD_eq_getElem?_getD, List.getElem?_eq_getElem (show k < ts.length by omega), Option.getD_some]
    by_cases e : ts[i].1 = ts[k].1
    · have := ids_inj ht hi (by omega) e
      subst this
      rw [if_pos rfl]
    · rw [if_neg e]
      refine plK_at ht i hi k ?_ (by omega)
      rcases Nat.lt_or_ge i k with h1 | h1
      · exact h1
      · exfalso
        have : i = k := by omega
        subst this
        exact e rfl
/-- a list over the tugs, one tug's element set -/
theorem map_set (ht : vB tugOk tugLt 4 ts = true) (f : Int → Int) (k : Nat) (hk : k < ts.length) (u : Int) : (ts.map fun t => f t.1).set k u = ts.map fun t => if t.1 = ts[k].1 then u else f t.1 := by
  refine List.ext_getElem? fun i => ?_
  rw [List.getElem?_set, List.getElem?_map, List.getElem?_map, List.length_map]
  by_cases h : k = i
  · subst h
    simp [hk]
  · rw [if_neg h]
    by_cases hi : i < ts.length
    · rw [List.getElem?_eq_getElem hi, Option.map_some, Option.map_some, if_neg (fun e => h (ids_inj ht hi hk e).symm)]
    · rw [List.getElem?_eq_none (by omega)]
      rfl
/-- a tug that is found -/
theorem tix_hit {x : Int} (h : 0 ≤ tix ts x) : ∃ k : Nat, ∃ hk : k < ts.length, tix ts x = k ∧ ts[k].1 = x := by
  unfold tix idxF at *
  cases e : ts.findIdx? (idIs x) with
  | none => rw [e] at h; simp at h
  | some k =>
    rw [List.findIdx?_eq_some_iff_getElem] at e
    obtain ⟨hk, hp, _⟩ := e
    exact ⟨k, hk, rfl, by simpa [idIs] using hp⟩
theorem tix_hi (x : Int) : -1 ≤ tix ts x ∧ tix ts x < ts.length := by
  unfold tix idxF
  cases e : ts.findIdx? (idIs x) with
  | none => simp; omega
  | some k =>
    rw [List.findIdx?_eq_some_iff_getElem] at e
    obtain ⟨hk, _⟩ := e
    simp only
    omega
theorem whoB_at {n : Nat} (h : whoB ts js who n = true) {i : Nat} (hi : i < n) : whoOk ts (who.getD i 0) (js.getD i j0).2.2.2.1 = true := by
  unfold whoB at h
  exact List.all_eq_true.1 h i (List.mem_range.2 hi)
theorem whoB_succ (n : Nat) : whoB ts js who (n + 1) = (whoB ts js who n && whoOk ts (who.getD n 0) (js.getD n j0).2.2.2.1) := by
  unfold whoB
  rw [List.range_succ, List.all_append]
  simp
theorem whoB_miss {n k : Nat} (hk : k < n) (e : whoOk ts (who.getD k 0) (js.getD k j0).2.2.2.1 = false) : whoB ts js who n = false := by
  unfold whoB
  rw [List.all_eq_false]
  exact ⟨k, List.mem_range.2 hk, by rw [e]; decide⟩
theorem whoOk_ix {x p : Int} (h : whoOk ts x p = true) : 0 ≤ tix ts x := by
  simp only [whoOk, decide_eq_true_eq] at h
  exact h.1
theorem tplanB_parts (h : tplanB ts js who = true) : vB tugOk tugLt 4 ts = true ∧ vB jobOk jobLt 5 js = true ∧ who.length = js.length ∧ whoB ts js who who.length = true := by
  simp only [tplanB, Bool.and_eq_true, decide_eq_true_eq] at h
  exact ⟨h.1.1.1, h.1.1.2, h.1.2, h.2⟩
end
def endsV (ts : List TugT) (js : List JobT) (who : List Int) : List Int × Bool := if tplanB ts js who = true then (endsK ts js who who.length, true) else ([], false)
def lastV (ts : List TugT) (js : List JobT) (who : List Int) : Int × Bool := if tplanB ts js who = true then (maxK ts js who who.length, true) else (0, false)
def waitsV (ts : List TugT) (js : List JobT) (who : List Int) : Int × Bool := if tplanB ts js who = true then (waitK ts js who who.length, true) else (0, false)
def towdV (ts : List TugT) (js : List JobT) (who : List Int) (i : Int) : Int × Int × Bool := if tplanB ts js who = true ∧ 0 ≤ tix ts i then (towdK ts js who who.length i, othK ts js who who.length i, true) else (0, 0, false)

end Go.Proofs.Ytipipicfkjigdaa
