import Derived.Test.YtfipmalomhflgaaQS03
import Derived.Test.YtfipmalomhflgaaQS07
import Derived.Shelf.SlSortCmp.SmallK
import Derived.Shelf.SlicesG.Cmp
import Derived.Shelf.Small.Bits
import Derived.Test.YtfipmalomhflgaaQS11
import Derived.Test.YtfipmalomhflgaaQS06
namespace Go.Proofs.Ytfipmalomhflgaa
set_option linter.unusedSimpArgs false
set_option linter.unusedVariables false
open Go.RowKit Go.Shelf Go.Lib Go.Sort

def sortBer_ren : Go.Shelf.Ren := ⟨fun | 6 => 68 | 15 => 86 | 14 => 85 | 28 => 98 | 29 => 99 | 20 => 90 | 21 => 91 | 22 => 92 | 23 => 93 | 24 => 94 | 25 => 95 | 26 => 96 | 27 => 97 | 46 => 101 | 47 => 102 | 48 => 103 | 49 => 104 | 50 => 105 | 57 => 106 | n => n, fun | 22 => 25 | 24 => 48 | 25 => 76 | 3 => 3 | 39 => 90 | 0 => 0 | 53 => 99 | 55 => 78 | 4 => 4 | 46 => 93 | 45 => 92 | 50 => 29 | 5 => 5 | 9 => 9 | 66 => 102 | 70 => 106 | 76 => 108 | 77 => 109 | n => n, fun | n => n⟩
theorem sortBer : Go.Proofs.SlLaysF0.n6 Try.prog sortBer_ren := {
  mixed := by kernel_rfl
  f6 := ⟨Try.f68.name, by decide, Try.func68.trans (congrArg some (by kernel_rfl))⟩
  f14 := ⟨Try.f85.name, by decide, Try.func85.trans (congrArg some (by kernel_rfl))⟩
  f15 := Try.func86.trans (congrArg some (by kernel_rfl))
  f20 := ⟨Try.f90.name, by decide, Try.func90.trans (congrArg some (by kernel_rfl))⟩
  f21 := ⟨Try.f91.name, by decide, Try.func91.trans (congrArg some (by kernel_rfl))⟩
  f22 := ⟨Try.f92.name, by decide, Try.func92.trans (congrArg some (by kernel_rfl))⟩
  f23 := ⟨Try.f93.name, by decide, Try.func93.trans (congrArg some (by kernel_rfl))⟩
  f24 := ⟨Try.f94.name, by decide, Try.func94.trans (congrArg some (by kernel_rfl))⟩
  f25 := ⟨Try.f95.name, by decide, Try.func95.trans (congrArg some (by kernel_rfl))⟩
  f26 := ⟨Try.f96.name, by decide, Try.func96.trans (congrArg some (by kernel_rfl))⟩
  f27 := ⟨Try.f97.name, by decide, Try.func97.trans (congrArg some (by kernel_rfl))⟩
  f28 := Try.func98.trans (congrArg some (by kernel_rfl))
  f29 := Try.func99.trans (congrArg some (by kernel_rfl))
  f46 := ⟨Try.f101.name, by decide, Try.func101.trans (congrArg some (by kernel_rfl))⟩
  f47 := Try.func102.trans (congrArg some (by kernel_rfl))
  f48 := Try.func103.trans (congrArg some (by kernel_rfl))
  f49 := ⟨Try.f104.name, by decide, Try.func104.trans (congrArg some (by kernel_rfl))⟩
  f50 := ⟨Try.f105.name, by decide, Try.func105.trans (congrArg some (by kernel_rfl))⟩
  f57 := ⟨Try.f106.name, by decide, Try.func106.trans (congrArg some (by kernel_rfl))⟩
  t0 := Try.underlying0
  a0 := Try.isAgg0
  z0 := Try.sizeOf0
  v0 := Try.zeroValue0
  t3 := Try.underlying3
  a3 := Try.isAgg3
  z3 := Try.sizeOf3
  v3 := Try.zeroValue3
  t4 := Try.underlying4
  a4 := Try.isAgg4
  z4 := Try.sizeOf4
  v4 := Try.zeroValue4
  t5 := Try.underlying5
  a5 := Try.isAgg5
  z5 := Try.sizeOf5
  v5 := Try.zeroValue5
  t9 := Try.underlying9
  a9 := Try.isAgg9
  z9 := Try.sizeOf9
  v9 := Try.zeroValue9
  t22 := Try.underlying25
  a22 := Try.isAgg25
  z22 := Try.sizeOf25
  v22 := Try.zeroValue25
  t25 := Try.underlying76
  a25 := Try.isAgg76
  z25 := Try.sizeOf76
  v25 := Try.zeroValue76
  t39 := Try.underlying90
  a39 := Try.isAgg90
  z39 := Try.sizeOf90
  v39 := Try.zeroValue90
  t45 := Try.underlying92
  a45 := Try.isAgg92
  z45 := Try.sizeOf92
  v45 := Try.zeroValue92
  t46 := Try.underlying93
  a46 := Try.isAgg93
  z46 := Try.sizeOf93
  v46 := Try.zeroValue93
  t50 := Try.underlying29
  a50 := Try.isAgg29
  z50 := Try.sizeOf29
  v50 := Try.zeroValue29
  t53 := Try.underlying99
  a53 := Try.isAgg99
  z53 := Try.sizeOf99
  v53 := Try.zeroValue99
  t55 := Try.underlying78
  a55 := Try.isAgg78
  z55 := Try.sizeOf78
  v55 := Try.zeroValue78
  t66 := Try.underlying102
  a66 := Try.isAgg102
  z66 := Try.sizeOf102
  v66 := Try.zeroValue102
  t70 := Try.underlying106
  a70 := Try.isAgg106
  z70 := Try.sizeOf106
  v70 := Try.zeroValue106
  t76 := Try.underlying108
  a76 := Try.isAgg108
  z76 := Try.sizeOf108
  v76 := Try.zeroValue108
  t77 := Try.underlying109
  a77 := Try.isAgg109
  z77 := Try.sizeOf109
  v77 := Try.zeroValue109 }
def cmpInt_ren : Go.Shelf.Ren := ⟨fun | 5 => 70 | 7 => 87 | n => n, fun | 22 => 3 | 3 => 3 | 4 => 4 | n => n, fun | n => n⟩
theorem cmpInt : Go.Proofs.SlLaysC2.n5 Try.prog cmpInt_ren := {
  mixed := by kernel_rfl
  f5 := ⟨Try.f70.name, by decide, Try.func70.trans (congrArg some (by kernel_rfl))⟩
  f7 := ⟨Try.f87.name, by decide, Try.func87.trans (congrArg some (by kernel_rfl))⟩
  t3 := Try.underlying3
  a3 := Try.isAgg3
  z3 := Try.sizeOf3
  v3 := Try.zeroValue3
  t4 := Try.underlying4
  a4 := Try.isAgg4
  z4 := Try.sizeOf4
  v4 := Try.zeroValue4
  t22 := Try.underlying3
  a22 := Try.isAgg3
  z22 := Try.sizeOf3
  v22 := Try.zeroValue3 }
def bitsLen2_ren : Go.Shelf.Ren := ⟨fun | 125 => 86 | 128 => 98 | 129 => 99 | n => n, fun | 46 => 90 | 3 => 3 | 51 => 99 | 53 => 78 | 4 => 4 | 5 => 5 | 9 => 9 | n => n, fun | n => n⟩
theorem bitsLen2 : Go.Proofs.Lays.n125 Try.prog bitsLen2_ren := {
  mixed := by kernel_rfl
  f125 := Try.func86.trans (congrArg some (by kernel_rfl))
  f128 := Try.func98.trans (congrArg some (by kernel_rfl))
  f129 := Try.func99.trans (congrArg some (by kernel_rfl))
  t3 := Try.underlying3
  a3 := Try.isAgg3
  z3 := Try.sizeOf3
  v3 := Try.zeroValue3
  t4 := Try.underlying4
  a4 := Try.isAgg4
  z4 := Try.sizeOf4
  v4 := Try.zeroValue4
  t5 := Try.underlying5
  a5 := Try.isAgg5
  z5 := Try.sizeOf5
  v5 := Try.zeroValue5
  t9 := Try.underlying9
  a9 := Try.isAgg9
  z9 := Try.sizeOf9
  v9 := Try.zeroValue9
  t46 := Try.underlying90
  a46 := Try.isAgg90
  z46 := Try.sizeOf90
  v46 := Try.zeroValue90
  t51 := Try.underlying99
  a51 := Try.isAgg99
  z51 := Try.sizeOf99
  v51 := Try.zeroValue99
  t53 := Try.underlying78
  a53 := Try.isAgg78
  z53 := Try.sizeOf78
  v53 := Try.zeroValue78 }

theorem len_cBer (x : Int × Int × Int × Int × Int) : (cBer x).length = 5 := rfl
theorem one_cBer' (x : Int × Int × Int × Int × Int) : ∀ v ∈ cBer x, v.oneCell' = true := by
  intro v hv
  simp only [cBer, List.mem_cons, List.not_mem_nil, or_false] at hv
  rcases hv with rfl | rfl | rfl | rfl | rfl <;> rfl
def cmpCell (x y : Int × Int × Int × Int × Int) : Int := Lib.compareInt x.2.1 y.2.1
set_option maxHeartbeats 2000000 in
theorem c_cmpCell (x y : Int × Int × Int × Int × Int) (W : World) : Calls Try.prog 69 #[.agg (cBer x).toArray, .agg (cBer y).toArray] W fun e w' => e = .returned (.int .i64 (cmpCell x y)) ∧ ∃ q os', w' = grow (W.drewN q) os' := by
  have hcon := fun W' => AnyG.cmp_Compare_int cmpInt x.2.1 y.2.1 W'
  change ∀ W', Calls Try.prog 70 _ _ _ at hcon
  unfold cmpCell
  generalize Lib.compareInt x.2.1 y.2.1 = r at hcon ⊢
  unfold cBer
  go_enter Try.func69, Try.ntmps69
  go_wp2_with (go_at_call 70; refine (hcon _).mono ?_; rintro e w' ⟨rfl, rfl⟩)
  go_ret
  exact ⟨rfl, 0, _, by rw [alloc_eq_grow, alloc_eq_grow, grow_grow]; rfl⟩
theorem lays_cmp (blk off size : Nat) (w : World) : CmpLays Try.prog 69 #[] cBer 5 cmpCell blk off size w :=
  fun _ _ _ _ x y => c_cmpCell x y _
theorem len_small (n : Nat) (W : World) (h : n ≤ 12) : Calls Try.prog 86 #[.int .u64 n] W fun e w' => (∃ l : Int, e = .returned (.int .i64 l)) ∧ w' = W :=
  (Any.bits_Len bitsLen2 n W (by omega) (by omega)).mono fun _ _ ⟨he, hw⟩ => ⟨⟨_, he⟩, hw⟩
theorem swo_cell : SWO (ltOf cmpCell) := by
  have h : ∀ x y, ltOf cmpCell x y = decide (x.2.1 < y.2.1) := by
    intro x y
    unfold ltOf cmpCell Lib.compareInt
    by_cases h1 : x.2.1 < y.2.1
    · simp [h1]
    · by_cases h2 : x.2.1 > y.2.1
      · simp [h1, h2]
      · simp [h1, h2]
  refine ⟨fun x => ?_, fun x y z h1 h2 => ?_, fun x y z h1 h2 => ?_⟩
  · rw [h]; simp
  · rw [h] at *
    simp only [decide_eq_true_eq] at *
    omega
  · rw [h] at *
    simp only [decide_eq_false_iff_not] at *
    omega
theorem lt_cell (x y : Int × Int × Int × Int × Int) : ltOf cmpCell x y = decide (x.2.1 < y.2.1) := by
  unfold ltOf cmpCell Lib.compareInt
  by_cases h1 : x.2.1 < y.2.1
  · simp [h1]
  · by_cases h2 : x.2.1 > y.2.1
    · simp [h1, h2]
    · simp [h1, h2]
theorem flat_at (xs : List (Int × Int × Int × Int × Int)) (t : Nat) (h : t < xs.length * 5) : ∃ (hi : t / 5 < xs.length), (flatK cBer 5 xs.toArray)[t]! = (cBer xs[t / 5])[t % 5]! := by
  have hi : t / 5 < xs.length := by omega
  refine ⟨hi, ?_⟩
  rw [get_flatK _ _ _ _ (by simpa using h)]
  simp [hi]
theorem cBer_at (x : Int × Int × Int × Int × Int) (j : Nat) (hj : j < 5) : (cBer x)[j]? = some (cBer x)[j]! := by
  have hl : j < (cBer x).length := by rw [len_cBer]; exact hj
  rw [List.getElem?_eq_getElem hl, getElem!_pos (cBer x) j hl]
theorem OwnS.holdsK {T : TypeId} {w : World} {g cap : Nat} {xs : List (Int × Int × Int × Int × Int)} (h : OwnS cBer 5 T w g cap xs) : HoldsK cBer 5 w g 0 xs.toArray := by
  intro j hj
  rw [size_flatK] at hj
  have hj' : j < xs.length * 5 := by simpa using hj
  obtain ⟨hi, hv⟩ := flat_at xs j hj'
  refine ⟨?_, h.frozen _⟩
  rw [hv]
  have hF : FreshA cBer 5 T 0 w (some ⟨g, 0, none⟩) cap xs := .inr ⟨g, rfl, Nat.zero_le _, h⟩
  obtain ⟨b, off, hA, _, hc⟩ := hF.rds (j / 5) xs[j / 5] (List.getElem?_eq_getElem hi)
  cases hA
  have := hc (j % 5) _ (cBer_at _ _ (Nat.mod_lt _ (by decide)))
  have e : 0 + j / 5 * 5 + j % 5 = 0 + j := by omega
  rw [e] at this
  exact this
theorem OwnS.sortedK {T : TypeId} {w : World} {g cap n : Nat} {xs ys : List (Int × Int × Int × Int × Int)} {os : Array Obj} (h : OwnS cBer 5 T w g cap xs) (hl : ys.length = xs.length) : OwnS cBer 5 T (sortWorldK cBer 5 w g 0 n ys.toArray os) g cap ys := by
  have hg := h.lt
  obtain ⟨cur, h1, h2, h3, h4, h5⟩ := h
  refine ⟨putCells id 0 (flatK cBer 5 ys.toArray) cur, ?_, by simp [putCells, h2], by omega, h4, ?_⟩
  · show ((w.heap.modify g (onCells (putCells id 0 (flatK cBer 5 ys.toArray)))) ++ os)[g]? = _
    rw [Array.getElem?_append_left (by simpa using hg), Array.getElem?_modify, if_pos rfl]
    rw [h1]
    rfl
  · intro i x hx j v hv
    have hi : i < ys.length := by
      rcases Nat.lt_or_ge i ys.length with h | h
      · exact h
      · rw [List.getElem?_eq_none h] at hx; cases hx
    have hj : j < 5 := by
      rcases Nat.lt_or_ge j 5 with h | h
      · exact h
      · rw [List.getElem?_eq_none (by rw [len_cBer]; exact h)] at hv; cases hv
    have ht : i * 5 + j < ys.length * 5 := by omega
    have hcs : i * 5 + j < cur.size := by omega
    obtain ⟨hi2, hf⟩ := flat_at ys (i * 5 + j) ht
    have e1 : (i * 5 + j) / 5 = i := by omega
    have e2 : (i * 5 + j) % 5 = j := by omega
    have hx2 : ys[(i * 5 + j) / 5] = x := by
      rw [List.getElem?_eq_getElem hi, Option.some.injEq] at hx
      rw [← hx]
      congr 1
    rw [hx2, e2] at hf
    have hv2 : (cBer x)[j]! = v := by
      have := cBer_at x j hj
      rw [hv, Option.some.injEq] at this
      exact this.symm
    unfold putCells
    rw [Array.getElem?_mapIdx, Array.getElem?_eq_getElem hcs]
    simp only [Option.map_some, Option.some.injEq]
    rw [if_pos ⟨Nat.zero_le _, by simpa using ht⟩]
    show (flatK cBer 5 ys.toArray)[i * 5 + j - 0]! = v
    rw [Nat.sub_zero, hf, hv2]
theorem grown_sortK {w : World} {g n : Nat} {ys : Array (Int × Int × Int × Int × Int)} {os : Array Obj} : w.grownBy (sortWorldK cBer 5 w g 0 n ys os) (some g) := by
  refine ⟨rfl, rfl, rfl, ?_, fun i hi hne => ?_⟩
  · show w.heap.size ≤ ((w.heap.modify g _) ++ os).size
    simp
  · show ((w.heap.modify g _) ++ os)[i]? = _
    rw [Array.getElem?_append_left (by simpa using hi), Array.getElem?_modify, if_neg (fun h => hne (by rw [h]))]
theorem c_sortBer (T : TypeId) (g cap : Nat) (xs : List (Int × Int × Int × Int × Int)) (w : World) (h : OwnS cBer 5 T w g cap xs) (hl : xs.length ≤ 12) :
    Calls Try.prog 68 #[.slice (some ⟨g, 0, none⟩) xs.length cap, .func (.func 69) #[] #[]] w fun e w' => e = .returned (.tuple #[]) ∧ ∃ ys : List (Int × Int × Int × Int × Int), ys.Perm xs ∧ (∀ (i j : Nat) (hj : j < ys.length) (hi : i < j), ys[i].2.1 ≤ ys[j].2.1) ∧ OwnS cBer 5 T w' g cap ys ∧ w.grownBy w' (some g) := by
  have eg : ∀ args w, (callFunc 69 args).run Try.prog w = .ok (.enter 69 args) w := enters_of Try.func69 (by kernel_rfl) rfl
  have hcon := AnyQ.slices_SortFunc_small_sorted sortBer 5 Try.isAgg48 Try.sizeOf48 cBer len_cBer one_cBer' cmpCell 69 #[] swo_cell g 0 cap xs.toArray w eg (lays_cmp g 0 _ w) h.holdsK h.lt (by simpa using hl) len_small
  change Calls Try.prog 68 _ _ _ at hcon
  rw [List.size_toArray] at hcon
  refine hcon.mono ?_
  rintro e w' ⟨rfl, d', n, os, hp, hs, rfl⟩
  obtain ⟨hp1, _, hp3⟩ := hp
  have hsz : d'.toList.length = xs.length := by simpa using hp1
  refine ⟨rfl, d'.toList, ?_, ?_, ?_, grown_sortK⟩
  · have e1 : d'.extract 0 xs.length = d' := by
      have : xs.length = d'.size := by simpa using hsz.symm
      rw [this, Array.extract_size]
    have e2 : xs.toArray.extract 0 xs.length = xs.toArray := by
      have : xs.length = xs.toArray.size := by simp
      rw [this, Array.extract_size]
    rw [e1, e2] at hp3
    exact hp3
  · intro i j hj hi
    have hj2 : j < d'.size := by simpa using hj
    have := hs i j (Nat.zero_le _) hi (by rw [← hsz]; exact hj)
    rw [lt_cell] at this
    rw [getElem!_pos d' j hj2, getElem!_pos d' i (by omega)] at this
    simp only [decide_eq_false_iff_not, Int.not_lt] at this
    simpa using this
  · have := OwnS.sortedK (n := n) (os := os) h hsz
    simpa using this

end Go.Proofs.Ytfipmalomhflgaa
namespace Go.Proofs.Ytfipmalomhflgaa
set_option linter.unusedSimpArgs false
set_option linter.unusedVariables false
open Go.RowKit

theorem OwnS.emp {α : Type} {cf : α → List Value} {sz : Nat} {T : TypeId} {w : World} {g : Nat} (h : w.heap[g]? = some (.cells #[] T (0, 0))) : OwnS cf sz T w g 0 ([] : List α) :=
  ⟨#[], h, by simp, by simp, by unfold maxLen; omega, fun i x h => by simp at h⟩
theorem blk_ne {g n : Nat} (h : g ≠ n) : some g ≠ blkO (some (⟨n, 0, none⟩ : Addr)) := by
  intro e
  simp only [blkO, Option.map_some, Option.some.injEq] at e
  exact h e
theorem blk_neb {g : Nat} {A : Option Addr} (h : NeB g A) : some g ≠ blkO A := by
  intro e
  cases A with
  | none => cases e
  | some a =>
    simp only [blkO, Option.map_some, Option.some.injEq] at e
    exact h a rfl e.symm
theorem OwnS.belowW {α : Type} {cf : α → List Value} {sz : Nat} {T : TypeId} {w w' : World} {g cap : Nat} {xs : List α} (h : OwnS cf sz T w g cap xs) (hb : Below w.heap.size w w') : OwnS cf sz T w' g cap xs := h.block (hb.block g h.lt)
theorem heapW {w w' : World} {n : Nat} {o : Obj} (h : w.heap[n]? = some o) (hl : n < w.heap.size) (hb : Below w.heap.size w w') : w'.heap[n]? = some o := (hb.block n hl).trans h
theorem wlist_nm {P : Program} {ops : Array Oper} {Q : Exit → Act → World → Prop} {l : List Oper} {a : Act} {w : World} (h : ∀ W, W = w → wpList P ops Q l a W) : wpList P ops Q l a w := h w rfl
set_option maxRecDepth 100000 in
set_option maxHeartbeats 8000000 in
theorem c_impl_LyingAt (q : Int) (A : Option Addr) (xs : List (Int × Int × Int × Int × Int)) (cap : Nat) (h : Int) (w : World) (hx : Rds cBer 5 w A xs) (hn : xs.length ≤ 9223372036854775807) (hcap : xs.length ≤ cap) (hmax : cap ≤ 9223372036854775807) :
    Calls Try.prog 40 #[.int .i64 q, .slice A xs.length cap, .int .i64 h] w fun e w' => ∃ A' cap', e = .returned (.tuple #[.slice A' (lyV q xs h).1.length cap', .bool (lyV q xs h).2]) ∧ FreshA cIn 1 3 w.heap.size w' A' cap' (lyV q xs h).1 ∧ Below w.heap.size w w' := by
  obtain ⟨i0, hI0, hI1, hI2, hI3⟩ := info_parts info_Ber
  obtain ⟨n0, hJ0, hJ1, hJ2, hJ3⟩ := info_parts info_In
  by_cases hs0 : hourOk q xs h = true
  rotate_left
  · have hn0 : hourOk q xs h = false := Bool.eq_false_iff.2 hs0
    have hV : lyV q xs h = ([], false) := lyV_no hn0
    simp only [hV]
    clear hs0 hV
    go_enter Try.func40, Try.ntmps40
    go_wp2_with (first | (go_at_call 66; refine (c_impl_isHour _ _ _ _ _ _ (by first | assumption | exact Rds.below hx (by (repeat' (first | exact Below.refl _ _ | assumption | refine Below.setCell ?_ ?_ _ | refine Below.drew ?_ | refine Below.alloc ?_ ?_ _ | refine Below.trans ?_ (Below.mono (by assumption) ?_) | (simp; done) | (simp; omega) | omega)))) (by omega) (by omega) (by omega)).mono ?_; rintro e w' ⟨rfl, hb⟩; have hc := cellOf hb; have hf := frozOf hb; have hz := sizeOf hb; try simp at hz))
    all_goals go_ret2
    all_goals exact ⟨none, 0, rfl, .inl ⟨rfl, rfl, rfl⟩, by (repeat' (first | exact Below.refl _ _ | assumption | refine Below.setCell ?_ ?_ _ | refine Below.drew ?_ | refine Below.alloc ?_ ?_ _ | refine Below.trans ?_ (Below.mono (by assumption) ?_) | (simp; done) | (simp; omega) | omega))⟩
  obtain ⟨hv, hh⟩ := hourOk_bd hs0
  have hV : lyV q xs h = (lyTo xs h q.toNat, true) := lyV_yes hs0
  simp only [hV]
  clear hV
  have hxl := berV_len hv
  have HV := hid hv
  clear hv
  go_enter Try.func40, Try.ntmps40
  go_wp2_with (fail)
  refine (c_impl_isHour q A xs cap h _ hx (by omega) (by omega) (by omega)).mono ?_
  rintro e W0 ⟨rfl, hb0⟩
  simp only [hs0]
  clear hs0
  have hz0 := hb0.size
  go_wp2_with (fail)
  go_loopw [8, 23] (fun v i wr => ∃ (k g cp : Nat), k ≤ xs.length ∧ i = .int .i64 k ∧ v = .slice (some ⟨g, 0, none⟩) (lieL xs h k).length cp ∧ Hid (OwnS cBer 5 48 wr g cp (lieL xs h k)) ∧ W0.heap.size ≤ g ∧ g ≠ W0.heap.size + 1 ∧ Hid (wr.heap[W0.heap.size + 1]? = some (.cells #[] 3 (0, 0))) ∧ W0.heap.size + 1 < wr.heap.size ∧ Below w.heap.size w wr) (fun _ i _ => xs.length - (intOf i).toNat)
  case atStart =>
    refine ⟨0, W0.heap.size, 0, Nat.zero_le _, rfl, rfl, hid (OwnS.emp ?_), by omega, by omega, hid ?_, by simp, by (repeat' (first | exact Below.refl _ _ | assumption | refine Below.setCell ?_ ?_ _ | refine Below.drew ?_ | refine Below.alloc ?_ ?_ _ | refine Below.trans ?_ (Below.mono (by assumption) ?_) | (simp; done) | (simp; omega) | omega))⟩
    · first | exact heap_alloc2g rfl | exact heap_alloc2gd rfl
    · first | exact heap_alloc_newg (by simp) | exact heap_alloc_newgd (by simp)
  case round =>
    obtain ⟨k, g, cp, hk, rfl, rfl, HO, hBg, hgn, HH, hlw, hbr⟩ := hrel
    have hc := cellOf hbr
    have hf := frozOf hbr
    have hz := sizeOf hbr
    have hgl := HO.out.lt
    by_cases hlt : k < xs.length
    rotate_left
    · obtain rfl : k = xs.length := by omega
      have hll := lieL_len xs h xs.length
      go_wp2_with (fail)
      refine (c_sortBer _ g cp _ _ HO.out (by omega)).mono ?_
      rintro e W2 ⟨rfl, ys, hp, hs, hO2, hg2⟩
      have HE := hid (lie_eq HV.out hp hs)
      have hm1 : ys.length ≤ (lieL xs h xs.length).length := Nat.le_of_eq hp.length_eq
      have hm2 : (lieL xs h xs.length).length ≤ ys.length := Nat.le_of_eq hp.length_eq.symm
      have HO2 := hid hO2
      have hz2 := hg2.size
      have HH2 := hid ((hg2.block (W0.heap.size + 1) hlw (fun e => hgn (Option.some.inj e).symm)).trans HH.out)
      have hb2 : Below w.heap.size w W2 := hbr.grown hg2 (by omega) (fun j hj => by cases hj; omega)
      clear hp hs hO2 hg2 hc hf hz hbr HO HH hx
      generalize (lieL xs h xs.length).length = m at *
      go_wp2_with (fail)
      rename World => wo
      go_loopw [9, 46] (fun v i wr => ∃ (j : Nat) (A2 : Option Addr) (cp2 : Nat) (out : List Int), j ≤ m ∧ i = .int .i64 j ∧ v = .slice A2 out.length cp2 ∧ Hid (FreshA cIn 1 3 w.heap.size wr A2 cp2 out) ∧ NeB g A2 ∧ Hid (OwnS cBer 5 48 wr g cp ys) ∧ Hid (out = (ys.take j).map (·.1)) ∧ Below w.heap.size w wr) (fun _ i _ => m - (intOf i).toNat)
      case atStart => exact ⟨0, _, 0, [], Nat.zero_le _, rfl, rfl, hid (.inr ⟨_, rfl, by omega, OwnS.emp HH2.out⟩), fun a ha => by cases ha; exact Ne.symm hgn, HO2, hid rfl, hb2⟩
      case round =>
        obtain ⟨j, A2, cp2, out, hj, rfl, rfl, HF, hng, HO3, HT, hbr⟩ := hrel
        have hz := sizeOf hbr
        by_cases hjm : j < m
        rotate_left
        · obtain rfl : j = m := by omega
          have HT2 := hid (HT.out.trans (by rw [List.take_of_length_le hm1, HE.out]))
          go_wp2_with (fail)
          go_ret2
          exact ⟨A2, cp2, by rw [← HT2.out]; rfl, by rw [← HT2.out]; exact HF.out, hbr⟩
        have hjl : j < ys.length := by omega
        have hol : out.length ≤ 12 := by rw [HT.out, List.length_map, List.length_take]; omega
        have HS := hid (show (ys.take (j + 1)).map (·.1) = (ys.take j).map (·.1) ++ [ys[j].1] by rw [List.take_succ_eq_append_getElem hjl, List.map_append]; rfl)
        have hF3 : FreshA cBer 5 48 0 wr (some ⟨g, 0, none⟩) cp ys := .inr ⟨g, rfl, Nat.zero_le _, HO3.out⟩
        obtain ⟨b9, o9, hA9, _, hcy⟩ := hF3.rds j ys[j] (List.getElem?_eq_getElem hjl)
        cases hA9
        have k0 := hcy 0 _ rfl
        have k1 := hcy 1 _ rfl
        have k2 := hcy 2 _ rfl
        have k3 := hcy 3 _ rfl
        have k4 := hcy 4 _ rfl
        simp only [Nat.add_zero, Nat.zero_add] at k0 k1 k2 k3 k4
        have hgl3 := HO3.out.lt
        clear hcy hF3
        generalize ys[j] = y at *
        go_wp2_with (at_builtin; refine wlist_nm ?_)
        intro V hV
        have hbV : Below wr.heap.size wr V := by rw [hV]; (repeat' (first | with_reducible exact Below.refl _ _ | with_reducible assumption | with_reducible refine Below.setCell ?_ ?_ _ | with_reducible refine Below.drew ?_ | with_reducible refine Below.alloc ?_ ?_ _ | with_reducible refine Below.trans ?_ (Below.mono (by assumption) ?_) | (dsimp only; omega) | (simp; done) | (simp; omega) | omega))
        have hzV := hbV.size
        refine wpList_pushesR (xs := out) rfl (.tmp 50) (.tmp 53) 40 rfl 3 n0 _ 8 Try.underlying40 hJ0 hJ1 hJ2 hJ3 rfl (by decide) (fun _ => rfl) one_In _ rfl rfl (HF.out.below hbV) [y.1] 1 rfl _ _ rfl (by rw [hV]; exact Rds.ofBox (by first | exact heap_alloc_newg (by simp) | exact heap_alloc_newgd (by simp))) (by unfold maxLen; omega) (by first | omega | (simp; omega)) (by omega) ?_
        intro A3 cp3 W3 hF4 hg4 hat4
        clear hV
        have hng3 : NeB g A3 := NeB.next hng hat4 (by omega)
        have hz3 := hg4.size
        have HO4 := hid (OwnS.block HO3.out ((hg4.block g (by omega) (blk_neb hng)).trans (hbV.block g hgl3)))
        have hb4 : Below w.heap.size w W3 := below_grown (Below.trans hbr (Below.mono hbV (by omega))) (by omega) hg4 (HF.out.lo)
        go_wp2_with (fail)
        go_roundw
        case rel => exact ⟨j + 1, A3, cp3, out ++ [y.1], by omega, by go_num, by simp, hid hF4, hng3, HO4, hid (by rw [HS.out, HT.out]), hb4⟩
        case measure => simp [intOf]; omega
    have HS := hid (lieL_succ xs h k hlt)
    have hll := lieL_len xs h k
    obtain ⟨bx, ox, rfl, hbx, hcx⟩ := hx k xs[k] (List.getElem?_eq_getElem hlt)
    have hx0 := hcx 0 _ rfl
    have hx1 := hcx 1 _ rfl
    have hx2 := hcx 2 _ rfl
    have hx3 := hcx 3 _ rfl
    have hx4 := hcx 4 _ rfl
    simp only [Nat.add_zero] at hx0
    clear hcx hx
    generalize xs[k] = x at *
    by_cases ha : x.2.2.2.1 ≤ h
    rotate_left
    · have HN := hid (show (if lies h x = true then [x] else []) = [] by rw [if_neg]; simp only [lies, decide_eq_true_eq]; intro e; omega)
      go_wp2_with (fail)
      go_roundw
      case rel =>
        have he : lieL xs h (k + 1) = lieL xs h k := by rw [HS.out, HN.out, List.append_nil]
        exact ⟨k + 1, g, cp, by omega, by go_num, by rw [he], hid (by rw [he]; exact OwnS.belowW HO.out (by (repeat' (first | exact Below.refl _ _ | assumption | refine Below.setCell ?_ ?_ _ | refine Below.drew ?_ | refine Below.alloc ?_ ?_ _ | refine Below.trans ?_ (Below.mono (by assumption) ?_) | (simp; done) | (simp; omega) | omega)))), hBg, hgn, hid (heapW HH.out hlw (by (repeat' (first | exact Below.refl _ _ | assumption | refine Below.setCell ?_ ?_ _ | refine Below.drew ?_ | refine Below.alloc ?_ ?_ _ | refine Below.trans ?_ (Below.mono (by assumption) ?_) | (simp; done) | (simp; omega) | omega)))), by simp [World.setCell]; omega, by (repeat' (first | exact Below.refl _ _ | assumption | refine Below.setCell ?_ ?_ _ | refine Below.drew ?_ | refine Below.alloc ?_ ?_ _ | refine Below.trans ?_ (Below.mono (by assumption) ?_) | (simp; done) | (simp; omega) | omega))⟩
      case measure => simp [intOf]; omega
    by_cases hd : h < x.2.2.2.2
    rotate_left
    · have HN := hid (show (if lies h x = true then [x] else []) = [] by rw [if_neg]; simp only [lies, decide_eq_true_eq]; intro e; omega)
      go_wp2_with (fail)
      go_roundw
      case rel =>
        have he : lieL xs h (k + 1) = lieL xs h k := by rw [HS.out, HN.out, List.append_nil]
        exact ⟨k + 1, g, cp, by omega, by go_num, by rw [he], hid (by rw [he]; exact OwnS.belowW HO.out (by (repeat' (first | exact Below.refl _ _ | assumption | refine Below.setCell ?_ ?_ _ | refine Below.drew ?_ | refine Below.alloc ?_ ?_ _ | refine Below.trans ?_ (Below.mono (by assumption) ?_) | (simp; done) | (simp; omega) | omega)))), hBg, hgn, hid (heapW HH.out hlw (by (repeat' (first | exact Below.refl _ _ | assumption | refine Below.setCell ?_ ?_ _ | refine Below.drew ?_ | refine Below.alloc ?_ ?_ _ | refine Below.trans ?_ (Below.mono (by assumption) ?_) | (simp; done) | (simp; omega) | omega)))), by simp [World.setCell]; omega, by (repeat' (first | exact Below.refl _ _ | assumption | refine Below.setCell ?_ ?_ _ | refine Below.drew ?_ | refine Below.alloc ?_ ?_ _ | refine Below.trans ?_ (Below.mono (by assumption) ?_) | (simp; done) | (simp; omega) | omega))⟩
      case measure => simp [intOf]; omega
    have HN := hid (show (if lies h x = true then [x] else []) = [x] by rw [if_pos]; simp only [lies, decide_eq_true_eq]; omega)
    go_wp2_with (at_builtin; refine wlist_nm ?_)
    intro V hV
    have hbV : Below wr.heap.size wr V := by rw [hV]; (repeat' (first | with_reducible exact Below.refl _ _ | with_reducible assumption | with_reducible refine Below.setCell ?_ ?_ _ | with_reducible refine Below.drew ?_ | with_reducible refine Below.alloc ?_ ?_ _ | with_reducible refine Below.trans ?_ (Below.mono (by assumption) ?_) | (dsimp only; omega) | (simp; done) | (simp; omega) | omega))
    have hzV := hbV.size
    refine wpList_pushesR (xs := lieL xs h k) rfl (.tmp 37) (.tmp 39) 25 rfl 48 i0 _ 40 Try.underlying25 hI0 hI1 hI2 hI3 rfl (by decide) (fun _ => rfl) one_Ber _ rfl rfl (FreshA.below (B := W0.heap.size) (.inr ⟨g, rfl, hBg, HO.out⟩) hbV) [x] 1 rfl _ _ rfl (by rw [hV]; exact Rds.ofBox (by first | exact heap_alloc_newg (by simp) | exact heap_alloc_newgd (by simp))) (by unfold maxLen; omega) (by first | omega | (simp; omega)) (by omega) ?_
    intro A3 cp3 W3 hF3 hg3 hat3
    clear hV
    obtain ⟨g3, rfl, hBg3, hO3⟩ := FreshA.row hF3 (by simp)
    have hz3 := hg3.size
    have hgn3 : g3 ≠ W0.heap.size + 1 := by
      rcases hat3 with e | e
      · simp only [blkO, Option.map_some, Option.some.injEq] at e; omega
      · simp only [blkO, Option.map_some, Option.some.injEq] at e; omega
    have HH3 := hid ((hg3.block (W0.heap.size + 1) (by omega) (blk_ne (Ne.symm hgn))).trans ((hbV.block _ hlw).trans HH.out))
    have hb3 : Below w.heap.size w W3 := below_grown (Below.trans hbr (Below.mono hbV (by omega))) (by omega) hg3 (fun a ha => by cases ha; show w.heap.size ≤ g; omega)
    have HO3 := hid hO3
    clear hO3 hF3 hg3 hat3
    go_wp2_with (fail)
    go_roundw
    case rel =>
      have he : lieL xs h (k + 1) = lieL xs h k ++ [x] := by rw [HS.out, HN.out]
      exact ⟨k + 1, g3, cp3, by omega, by go_num, by rw [he]; simp, hid (by rw [he]; exact HO3.out), hBg3, hgn3, HH3, by omega, hb3⟩
    case measure => simp [intOf]; omega

end Go.Proofs.Ytfipmalomhflgaa
