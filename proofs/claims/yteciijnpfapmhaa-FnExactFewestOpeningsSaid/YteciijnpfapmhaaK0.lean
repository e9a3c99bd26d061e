import Derived.Test.YteciijnpfapmhaaBrDefs
namespace Go.Proofs.Yteciijnpfapmhaa
set_option linter.unusedSimpArgs false
set_option linter.unusedVariables false
open Go.RowKit

def sortB (rs : List Int) : Bool := (List.range rs.length).all (vAt (fun _ => true) reqLe rs)
theorem sortB_bad {rs : List Int} {k : Nat} (h : k < rs.length) (hv : vAt (fun _ => true) reqLe rs k = false) : sortB rs = false := by
  unfold sortB
  rw [List.all_eq_false]
  exact ⟨k, List.mem_range.2 h, by simp [hv]⟩
theorem sortB_all {rs : List Int} (h : ∀ j, j < rs.length → vAt (fun _ => true) reqLe rs j = true) : sortB rs = true := by
  unfold sortB
  rw [List.all_eq_true]
  exact fun j hj => h j (List.mem_range.1 hj)
def noMin (x : Int) : Bool := !minB x
theorem vAt_split {α : Type} (good : α → Bool) (lt : α → α → Bool) (xs : List α) (k : Nat) (hk : k < xs.length) : vAt good lt xs k = (good xs[k] && vAt (fun _ => true) lt xs k) := by
  cases k with
  | zero => rw [vAt_zero hk, vAt_zero hk]; simp
  | succ k => rw [vAt_succ k hk, vAt_succ k hk]; simp
theorem req_split (rs : List Int) : vB minB reqLe 8 rs = (sortB rs && !(rs.any noMin) && decide (rs.length ≤ 8)) := by
  unfold vB sortB
  congr 1
  rw [Bool.eq_iff_iff]
  simp only [List.all_eq_true, List.mem_range, Bool.and_eq_true, Bool.not_eq_true', List.any_eq_false]
  constructor
  · intro h
    refine ⟨fun k hk => ?_, fun x hx => ?_⟩
    · have := h k hk
      rw [vAt_split _ _ _ _ hk, Bool.and_eq_true] at this
      exact this.2
    · obtain ⟨k, hk, rfl⟩ := List.getElem_of_mem hx
      have := h k hk
      rw [vAt_split _ _ _ _ hk, Bool.and_eq_true] at this
      simp [noMin, this.1]
  · intro h k hk
    rw [vAt_split _ _ _ _ hk, Bool.and_eq_true]
    refine ⟨?_, h.1 k hk⟩
    have := h.2 rs[k] (List.getElem_mem hk)
    simpa [noMin] using this
theorem reqB_no1 {d : Int} {xs : List (Int × Int)} {rs : List Int} {p : Int} (h : brB d xs = false) : reqB d xs rs p = false := by simp [reqB, h]
theorem reqB_no2 {d : Int} {xs : List (Int × Int)} {rs : List Int} {p : Int} (h : ¬ rs.length ≤ 8) : reqB d xs rs p = false := by simp [reqB, vB_long (good := minB) (lt := reqLe) (n := 8) (xs := rs) (by omega)]
theorem reqB_no3 {d : Int} {xs : List (Int × Int)} {rs : List Int} {p : Int} (h : inB p 0 120 = false) : reqB d xs rs p = false := by simp [reqB, h]
theorem reqB_no4 {d : Int} {xs : List (Int × Int)} {rs : List Int} {p : Int} (h : vB minB reqLe 8 rs = false) : reqB d xs rs p = false := by simp [reqB, h]
theorem reqB_yes {d : Int} {xs : List (Int × Int)} {rs : List Int} {p : Int} (h1 : brB d xs = true) (h2 : vB minB reqLe 8 rs = true) (h3 : inB p 0 120 = true) : reqB d xs rs p = true := by simp [reqB, h1, h2, h3]
def minP (x : Int) : Prop := 0 ≤ x ∧ x ≤ 9999
theorem reqB_P {d : Int} {xs : List (Int × Int)} {rs : List Int} {p : Int} (h : reqB d xs rs p = true) : ∀ k (hk : k < rs.length), minP rs[k] := fun k hk => minB_bd (vB_at (reqB_v h) k hk)
theorem opsB_P {d : Int} {xs : List (Int × Int)} {pl : List Int} (hd : 1 ≤ d) (h : opsB d xs pl = true) : ∀ k (hk : k < pl.length), minP pl[k] := fun k hk => by
  have := mayB_bd (opsB_at h k hk)
  unfold minP
  omega
theorem waitS_bd {m own t : Int} (hm : minP m) (ht : minP t) (ho : -1 ≤ own ∧ own ≤ 9999) : -1 ≤ waitS m own t ∧ waitS m own t ≤ 9999 := by
  unfold waitS minP at *
  split <;> omega
theorem waitO_bd {pl : List Int} {m : Int} (hm : minP m) (hp : ∀ k (hk : k < pl.length), minP pl[k]) : ∀ k, k ≤ pl.length → -1 ≤ waitO (pl.take k) m ∧ waitO (pl.take k) m ≤ 9999
  | 0, _ => by simp [waitO]
  | k + 1, hk => by
    rw [waitO_snoc pl m k (by omega)]
    exact waitS_bd hm (hp k (by omega)) (waitO_bd hm hp k (by omega))
def waitsL (rs pl : List Int) : List Int := rs.map fun m => waitO pl m
theorem waitsL_snoc (rs pl : List Int) (k : Nat) (h : k < rs.length) : waitsL (rs.take (k + 1)) pl = waitsL (rs.take k) pl ++ [waitO pl rs[k]] := by
  unfold waitsL
  rw [List.take_succ_eq_append_getElem h, List.map_append]; rfl
theorem waitsL_eq {d : Int} {xs : List (Int × Int)} {rs pl : List Int} (hd : 1 ≤ d) (ho : opsB d xs pl = true) (hr : ∀ k (hk : k < rs.length), minP rs[k]) : waitsL rs pl = waitL rs pl := by
  unfold waitsL waitL
  refine List.map_congr_left fun m hm => ?_
  obtain ⟨k, hk, rfl⟩ := List.getElem_of_mem hm
  exact waitO_eq hd ho (hr k hk).1
def outP (p n : Int) : Bool := !inB n 0 p
theorem serv_any (rs pl : List Int) (p : Int) : servB rs pl p = !((waitL rs pl).any (outP p)) := by
  unfold servB waitL
  rw [List.any_map, Bool.eq_iff_iff]
  simp [outP, inB, Function.comp_def, List.all_eq_true]
theorem planB_no1 {d : Int} {xs : List (Int × Int)} {rs : List Int} {p : Int} {pl : List Int} (h : reqB d xs rs p = false) : planB d xs rs p pl = false := by simp [planB, h]
theorem planB_no2 {d : Int} {xs : List (Int × Int)} {rs : List Int} {p : Int} {pl : List Int} (h : opsB d xs pl = false) : planB d xs rs p pl = false := by simp [planB, h]
theorem planB_eq {d : Int} {xs : List (Int × Int)} {rs : List Int} {p : Int} {pl : List Int} (h1 : reqB d xs rs p = true) (h2 : opsB d xs pl = true) : planB d xs rs p pl = servB rs pl p := by simp [planB, h1, h2]
theorem mayB_min {d : Int} {xs : List (Int × Int)} {x : Int} (hd : 1 ≤ d) (h : minB x = false) : mayB d xs x = false := by
  cases hm : mayB d xs x with
  | false => rfl
  | true =>
    have := mayB_bd hm
    simp [minB] at h
    have := h this.1
    omega
theorem firstO_ge {pl : List Int} {m : Int} (h : 0 ≤ firstO pl m) : m ≤ firstO pl m := by
  unfold firstO at *
  cases hf : pl.find? (fun t => decide (m ≤ t)) with
  | none => rw [hf] at h; simp at h
  | some t =>
    have h2 := List.find?_some hf
    simpa using h2
def servP (pl : List Int) (p m : Int) : Bool := decide (0 ≤ waitF pl m ∧ waitF pl m ≤ p)
theorem servB_all (rs pl : List Int) (p : Int) : servB rs pl p = rs.all (servP pl p) := rfl
theorem servP_yes {pl : List Int} {p m : Int} (h1 : 0 ≤ firstO pl m) (h2 : firstO pl m ≤ m + p) : servP pl p m = true := by
  have := firstO_ge h1
  unfold servP waitF
  rw [if_neg (by omega)]
  simp
  omega
theorem servP_no1 {pl : List Int} {p m : Int} (h1 : firstO pl m < 0) : servP pl p m = false := by
  unfold servP waitF
  rw [if_pos h1]
  simp
theorem servP_no2 {pl : List Int} {p m : Int} (h1 : m + p < firstO pl m) : servP pl p m = false := by
  unfold servP waitF
  by_cases h : firstO pl m < 0
  · rw [if_pos h]; simp
  · rw [if_neg h]; simp; omega
theorem all_snoc {α : Type} (p : α → Bool) (xs : List α) (k : Nat) (h : k < xs.length) : (xs.take (k + 1)).all p = ((xs.take k).all p && p xs[k]) := by
  rw [List.take_succ_eq_append_getElem h, List.all_append]; simp
theorem all_miss {α : Type} {p : α → Bool} {xs : List α} {k : Nat} (h : k < xs.length) (hp : p xs[k] = false) : xs.all p = false := by
  rw [List.all_eq_false]; exact ⟨xs[k], List.getElem_mem h, by simp [hp]⟩
theorem waitL_snoc (rs pl : List Int) (k : Nat) (h : k < rs.length) : waitL (rs.take (k + 1)) pl = waitL (rs.take k) pl ++ [waitF pl rs[k]] := by
  unfold waitL
  rw [List.take_succ_eq_append_getElem h, List.map_append]; rfl
theorem sumL_app (ys : List Int) (y : Int) : sumL (ys ++ [y]) = sumL ys + y := by
  unfold sumL
  rw [List.foldl_append]; rfl
theorem serv_at {rs pl : List Int} {p : Int} (h : servB rs pl p = true) (k : Nat) (hk : k < rs.length) : 0 ≤ waitF pl rs[k] ∧ waitF pl rs[k] ≤ p := by
  unfold servB at h
  rw [List.all_eq_true] at h
  simpa using h rs[k] (List.getElem_mem hk)
theorem sumW_bd {rs pl : List Int} {p : Int} (h : servB rs pl p = true) (hp : 0 ≤ p ∧ p ≤ 120) : ∀ k : Nat, k ≤ rs.length → 0 ≤ sumL (waitL (rs.take k) pl) ∧ sumL (waitL (rs.take k) pl) ≤ 120 * k
  | 0, _ => by simp [waitL, sumL]
  | k + 1, hk => by
    have ih := sumW_bd h hp k (by omega)
    have := serv_at h k (by omega)
    rw [waitL_snoc rs pl k (by omega), sumL_app]
    omega
theorem wait_first {pl : List Int} {m : Int} (h : 0 ≤ waitF pl m) : waitF pl m = firstO pl m - m ∧ 0 ≤ firstO pl m := by
  unfold waitF at *
  split at h
  · omega
  · rename_i h2
    rw [if_neg h2]
    exact ⟨rfl, by omega⟩
theorem openB {n : Nat} {d : Int} (hn : n ≤ 10000) (hd : 1 ≤ d ∧ d ≤ 30) : 0 ≤ (n : Int) * d ∧ (n : Int) * d ≤ 300000 := by
  constructor
  · exact Int.mul_nonneg (by omega) (by omega)
  · have h1 := Int.mul_le_mul (a := (n : Int)) (b := d) (c := 10000) (d := 30) (by omega) hd.2 (by omega) (by omega)
    omega
theorem fewTo_next {d : Int} {xs : List (Int × Int)} {p : Int} {rs out : List Int} {r : Int} {k : Nat} (hk : k < rs.length) (h : fewTo d xs p rs k = some (out, r)) : fewTo d xs p rs (k + 1) = fewN d xs p out r rs[k] := by
  rw [fewTo_succ d xs p rs k hk, h]; rfl
theorem fewN_skip {d : Int} {xs : List (Int × Int)} {p : Int} {out : List Int} {r m : Int} (h : 0 ≤ firstO out m) : fewN d xs p out r m = some (out, r) := by unfold fewN; rw [if_pos h]
theorem fewN_none {d : Int} {xs : List (Int × Int)} {p : Int} {out : List Int} {r m : Int} (h : ¬ 0 ≤ firstO out m) (hl : lastF d xs (max m r) (min (m + p) 9999) = none) : fewN d xs p out r m = none := by unfold fewN; rw [if_neg h, hl]
theorem fewN_some {d : Int} {xs : List (Int × Int)} {p : Int} {out : List Int} {r m u : Int} (h : ¬ 0 ≤ firstO out m) (hl : lastF d xs (max m r) (min (m + p) 9999) = some u) : fewN d xs p out r m = some (out ++ [u], u + d) := by unfold fewN; rw [if_neg h, hl]
theorem fewV_no {d : Int} {xs : List (Int × Int)} {rs : List Int} {p : Int} (h : reqB d xs rs p = false) : fewV d xs rs p = ([], false) := by simp [fewV, h]
theorem fewV_stop {d : Int} {xs : List (Int × Int)} {rs : List Int} {p : Int} {k : Nat} (hk : k ≤ rs.length) (h : fewTo d xs p rs k = none) : fewV d xs rs p = ([], false) := by
  unfold fewV
  rw [fewTo_end d xs p rs k hk h]
  split <;> rfl
theorem fewV_end {d : Int} {xs : List (Int × Int)} {rs : List Int} {p : Int} {out : List Int} {r : Int} (hr : reqB d xs rs p = true) (h : fewTo d xs p rs rs.length = some (out, r)) : fewV d xs rs p = (out, true) := by
  unfold fewV
  rw [if_pos hr, h]
theorem lastF_swap {d : Int} {xs : List (Int × Int)} (hd : 1 ≤ d) (m r t : Int) : lastF d xs (max r m) t = lastF d xs (max m r) (min t 9999) := by
  rw [show max r m = max m r by omega]
  exact lastF_min hd _ _

theorem FreshA.emp {α : Type} {cf : α → List Value} {sz : Nat} {T : TypeId} {w w' : World} (hb : Below (w.heap.size + 1) (w.alloc (.cells #[] T)) w') : FreshA cf sz T w.heap.size w' (some ⟨w.heap.size, 0, none⟩) 0 ([] : List α) := by
  refine .inr ⟨w.heap.size, rfl, Nat.le_refl _, #[], ?_, by simp, Nat.le_refl _, by unfold maxLen; omega, fun i x h => by simp at h⟩
  rw [hb.block _ (by omega)]
  exact heap_alloc_new _ _
theorem FreshA.new {α : Type} {cf : α → List Value} {sz : Nat} {T : TypeId} {B : Nat} {w : World} (hB : B ≤ w.heap.size) : FreshA cf sz T B (w.alloc (.cells #[] T)) (some ⟨w.heap.size, 0, none⟩) 0 ([] : List α) :=
  .inr ⟨w.heap.size, rfl, hB, #[], heap_alloc_new _ _, by simp, Nat.le_refl _, by unfold maxLen; omega, fun i x h => by simp at h⟩

end Go.Proofs.Yteciijnpfapmhaa
