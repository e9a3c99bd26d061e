import Derived.Test.YtfipmalomhflgaaQY03
import Derived.Test.YtfipmalomhflgaaQY06
import Derived.Shelf.SlSortCmp.SmallK
import Derived.Shelf.SlicesG.Cmp
import Derived.Shelf.Small.Bits
namespace Go.Proofs.Ytfipmalomhflgaa
set_option linter.unusedSimpArgs false
set_option linter.unusedVariables false
open Go.RowKit Go.Shelf Go.Lib Go.Sort

def sortBer_ren : Go.Shelf.Ren := ⟨fun | 6 => 68 | 15 => 86 | 14 => 85 | 28 => 98 | 29 => 99 | 20 => 90 | 21 => 91 | 22 => 92 | 23 => 93 | 24 => 94 | 25 => 95 | 26 => 96 | 27 => 97 | 46 => 101 | 47 => 102 | 48 => 103 | 49 => 104 | 50 => 105 | 57 => 106 | n => n, fun | 22 => 25 | 24 => 48 | 25 => 76 | 3 => 3 | 39 => 90 | 0 => 0 | 53 => 99 | 55 => 78 | 4 => 4 | 46 => 93 | 45 => 92 | 50 => 29 | 5 => 5 | 9 => 9 | 66 => 102 | 70 => 106 | 76 => 108 | 77 => 109 | n => n, fun | n => n⟩
theorem sortBer : Go.Proofs.SlLaysF0.n6 Try.prog sortBer_ren := {
  mixed := by kernel_rfl
  f6 := ⟨Try.f68.name, by decide, Try.func68.trans (congrArg some (by kernel_rfl))⟩
  f14 := ⟨Try.f85.name, by decide, Try.func85.trans (congrArg some (by kernel_rfl))⟩
  f15 := Try.func86.trans (congrArg some (by kernel_rfl))
  f20 := ⟨Try.f90.name, by decide, Try.func90.trans (congrArg some (by kernel_rfl))⟩
  f21 := ⟨Try.f91.name, by decide, Try.func91.trans (congrArg some (by kernel_rfl))⟩
  f22 := ⟨Try.f92.name, by decide, Try.func92.trans (congrArg some (by kernel_rfl))⟩
  f23 := ⟨Try.f93.name, by decide, Try.func93.trans (congrArg some (by kernel_rfl))⟩
  f24 := ⟨Try.f94.name, by decide, Try.func94.trans (congrArg some (by kernel_rfl))⟩
  f25 := ⟨Try.f95.name, by decide, Try.func95.trans (congrArg some (by kernel_rfl))⟩
  f26 := ⟨Try.f96.name, by decide, Try.func96.trans (congrArg some (by kernel_rfl))⟩
  f27 := ⟨Try.f97.name, by decide, Try.func97.trans (congrArg some (by kernel_rfl))⟩
  f28 := Try.func98.trans (congrArg some (by kernel_rfl))
  f29 := Try.func99.trans (congrArg some (by kernel_rfl))
  f46 := ⟨Try.f101.name, by decide, Try.func101.trans (congrArg some (by kernel_rfl))⟩
  f47 := Try.func102.trans (congrArg some (by kernel_rfl))
  f48 := Try.func103.trans (congrArg some (by kernel_rfl))
  f49 := ⟨Try.f104.name, by decide, Try.func104.trans (congrArg some (by kernel_rfl))⟩
  f50 := ⟨Try.f105.name, by decide, Try.func105.trans (congrArg some (by kernel_rfl))⟩
  f57 := ⟨Try.f106.name, by decide, Try.func106.trans (congrArg some (by kernel_rfl))⟩
  t0 := Try.underlying0
  a0 := Try.isAgg0
  z0 := Try.sizeOf0
  v0 := Try.zeroValue0
  t3 := Try.underlying3
  a3 := Try.isAgg3
  z3 := Try.sizeOf3
  v3 := Try.zeroValue3
  t4 := Try.underlying4
  a4 := Try.isAgg4
  z4 := Try.sizeOf4
  v4 := Try.zeroValue4
  t5 := Try.underlying5
  a5 := Try.isAgg5
  z5 := Try.sizeOf5
  v5 := Try.zeroValue5
  t9 := Try.underlying9
  a9 := Try.isAgg9
  z9 := Try.sizeOf9
  v9 := Try.zeroValue9
  t22 := Try.underlying25
  a22 := Try.isAgg25
  z22 := Try.sizeOf25
  v22 := Try.zeroValue25
  t25 := Try.underlying76
  a25 := Try.isAgg76
  z25 := Try.sizeOf76
  v25 := Try.zeroValue76
  t39 := Try.underlying90
  a39 := Try.isAgg90
  z39 := Try.sizeOf90
  v39 := Try.zeroValue90
  t45 := Try.underlying92
  a45 := Try.isAgg92
  z45 := Try.sizeOf92
  v45 := Try.zeroValue92
  t46 := Try.underlying93
  a46 := Try.isAgg93
  z46 := Try.sizeOf93
  v46 := Try.zeroValue93
  t50 := Try.underlying29
  a50 := Try.isAgg29
  z50 := Try.sizeOf29
  v50 := Try.zeroValue29
  t53 := Try.underlying99
  a53 := Try.isAgg99
  z53 := Try.sizeOf99
  v53 := Try.zeroValue99
  t55 := Try.underlying78
  a55 := Try.isAgg78
  z55 := Try.sizeOf78
  v55 := Try.zeroValue78
  t66 := Try.underlying102
  a66 := Try.isAgg102
  z66 := Try.sizeOf102
  v66 := Try.zeroValue102
  t70 := Try.underlying106
  a70 := Try.isAgg106
  z70 := Try.sizeOf106
  v70 := Try.zeroValue106
  t76 := Try.underlying108
  a76 := Try.isAgg108
  z76 := Try.sizeOf108
  v76 := Try.zeroValue108
  t77 := Try.underlying109
  a77 := Try.isAgg109
  z77 := Try.sizeOf109
  v77 := Try.zeroValue109 }
def cmpInt_ren : Go.Shelf.Ren := ⟨fun | 5 => 70 | 7 => 87 | n => n, fun | 22 => 3 | 3 => 3 | 4 => 4 | n => n, fun | n => n⟩
theorem cmpInt : Go.Proofs.SlLaysC2.n5 Try.prog cmpInt_ren := {
  mixed := by kernel_rfl
  f5 := ⟨Try.f70.name, by decide, Try.func70.trans (congrArg some (by kernel_rfl))⟩
  f7 := ⟨Try.f87.name, by decide, Try.func87.trans (congrArg some (by kernel_rfl))⟩
  t3 := Try.underlying3
  a3 := Try.isAgg3
  z3 := Try.sizeOf3
  v3 := Try.zeroValue3
  t4 := Try.underlying4
  a4 := Try.isAgg4
  z4 := Try.sizeOf4
  v4 := Try.zeroValue4
  t22 := Try.underlying3
  a22 := Try.isAgg3
  z22 := Try.sizeOf3
  v22 := Try.zeroValue3 }
def bitsLen2_ren : Go.Shelf.Ren := ⟨fun | 125 => 86 | 128 => 98 | 129 => 99 | n => n, fun | 46 => 90 | 3 => 3 | 51 => 99 | 53 => 78 | 4 => 4 | 5 => 5 | 9 => 9 | n => n, fun | n => n⟩
theorem bitsLen2 : Go.Proofs.Lays.n125 Try.prog bitsLen2_ren := {
  mixed := by kernel_rfl
  f125 := Try.func86.trans (congrArg some (by kernel_rfl))
  f128 := Try.func98.trans (congrArg some (by kernel_rfl))
  f129 := Try.func99.trans (congrArg some (by kernel_rfl))
  t3 := Try.underlying3
  a3 := Try.isAgg3
  z3 := Try.sizeOf3
  v3 := Try.zeroValue3
  t4 := Try.underlying4
  a4 := Try.isAgg4
  z4 := Try.sizeOf4
  v4 := Try.zeroValue4
  t5 := Try.underlying5
  a5 := Try.isAgg5
  z5 := Try.sizeOf5
  v5 := Try.zeroValue5
  t9 := Try.underlying9
  a9 := Try.isAgg9
  z9 := Try.sizeOf9
  v9 := Try.zeroValue9
  t46 := Try.underlying90
  a46 := Try.isAgg90
  z46 := Try.sizeOf90
  v46 := Try.zeroValue90
  t51 := Try.underlying99
  a51 := Try.isAgg99
  z51 := Try.sizeOf99
  v51 := Try.zeroValue99
  t53 := Try.underlying78
  a53 := Try.isAgg78
  z53 := Try.sizeOf78
  v53 := Try.zeroValue78 }

theorem len_cBer (x : Int × Int × Int × Int × Int) : (cBer x).length = 5 := rfl
theorem one_cBer' (x : Int × Int × Int × Int × Int) : ∀ v ∈ cBer x, v.oneCell' = true := by
  intro v hv
  simp only [cBer, List.mem_cons, List.not_mem_nil, or_false] at hv
  rcases hv with rfl | rfl | rfl | rfl | rfl <;> rfl
def cmpCell (x y : Int × Int × Int × Int × Int) : Int := Lib.compareInt x.2.1 y.2.1
set_option maxHeartbeats 2000000 in
theorem c_cmpCell (x y : Int × Int × Int × Int × Int) (W : World) : Calls Try.prog 69 #[.agg (cBer x).toArray, .agg (cBer y).toArray] W fun e w' => e = .returned (.int .i64 (cmpCell x y)) ∧ ∃ q os', w' = grow (W.drewN q) os' := by
  have hcon := fun W' => AnyG.cmp_Compare_int cmpInt x.2.1 y.2.1 W'
  change ∀ W', Calls Try.prog 70 _ _ _ at hcon
  unfold cmpCell
  generalize Lib.compareInt x.2.1 y.2.1 = r at hcon ⊢
  unfold cBer
  go_enter Try.func69, Try.ntmps69
  go_wp2_with (go_at_call 70; refine (hcon _).mono ?_; rintro e w' ⟨rfl, rfl⟩)
  go_ret
  exact ⟨rfl, 0, _, by rw [alloc_eq_grow, alloc_eq_grow, grow_grow]; rfl⟩
theorem lays_cmp (blk off size : Nat) (w : World) : CmpLays Try.prog 69 #[] cBer 5 cmpCell blk off size w :=
  fun _ _ _ _ x y => c_cmpCell x y _
theorem len_small (n : Nat) (W : World) (h : n ≤ 12) : Calls Try.prog 86 #[.int .u64 n] W fun e w' => (∃ l : Int, e = .returned (.int .i64 l)) ∧ w' = W :=
  (Any.bits_Len bitsLen2 n W (by omega) (by omega)).mono fun _ _ ⟨he, hw⟩ => ⟨⟨_, he⟩, hw⟩
theorem swo_cell : SWO (ltOf cmpCell) := by
  have h : ∀ x y, ltOf cmpCell x y = decide (x.2.1 < y.2.1) := by
    intro x y
    unfold ltOf cmpCell Lib.compareInt
    by_cases h1 : x.2.1 < y.2.1
    · simp [h1]
    · by_cases h2 : x.2.1 > y.2.1
      · simp [h1, h2]
      · simp [h1, h2]
  refine ⟨fun x => ?_, fun x y z h1 h2 => ?_, fun x y z h1 h2 => ?_⟩
  · rw [h]; simp
  · rw [h] at *
    simp only [decide_eq_true_eq] at *
    omega
  · rw [h] at *
    simp only [decide_eq_false_iff_not] at *
    omega
theorem lt_cell (x y : Int × Int × Int × Int × Int) : ltOf cmpCell x y = decide (x.2.1 < y.2.1) := by
  unfold ltOf cmpCell Lib.compareInt
  by_cases h1 : x.2.1 < y.2.1
  · simp [h1]
  · by_cases h2 : x.2.1 > y.2.1
    · simp [h1, h2]
    · simp [h1, h2]
theorem flat_at (xs : List (Int × Int × Int × Int × Int)) (t : Nat) (h : t < xs.length * 5) : ∃ (hi : t / 5 < xs.length), (flatK cBer 5 xs.toArray)[t]! = (cBer xs[t / 5])[t % 5]! := by
  have hi : t / 5 < xs.length := by omega
  refine ⟨hi, ?_⟩
  rw [get_flatK _ _ _ _ (by simpa using h)]
  simp [hi]
theorem cBer_at (x : Int × Int × Int × Int × Int) (j : Nat) (hj : j < 5) : (cBer x)[j]? = some (cBer x)[j]! := by
  have hl : j < (cBer x).length := by rw [len_cBer]; exact hj
  rw [List.getElem?_eq_getElem hl, getElem!_pos (cBer x) j hl]
theorem OwnS.holdsK {T : TypeId} {w : World} {g cap : Nat} {xs : List (Int × Int × Int × Int × Int)} (h : OwnS cBer 5 T w g cap xs) : HoldsK cBer 5 w g 0 xs.toArray := by
  intro j hj
  rw [size_flatK] at hj
  have hj' : j < xs.length * 5 := by simpa using hj
  obtain ⟨hi, hv⟩ := flat_at xs j hj'
  refine ⟨?_, h.frozen _⟩
  rw [hv]
  have hF : FreshA cBer 5 T 0 w (some ⟨g, 0, none⟩) cap xs := .inr ⟨g, rfl, Nat.zero_le _, h⟩
  obtain ⟨b, off, hA, _, hc⟩ := hF.rds (j / 5) xs[j / 5] (List.getElem?_eq_getElem hi)
  cases hA
  have := hc (j % 5) _ (cBer_at _ _ (Nat.mod_lt _ (by decide)))
  have e : 0 + j / 5 * 5 + j % 5 = 0 + j := by omega
  rw [e] at this
  exact this
theorem OwnS.sortedK {T : TypeId} {w : World} {g cap n : Nat} {xs ys : List (Int × Int × Int × Int × Int)} {os : Array Obj} (h : OwnS cBer 5 T w g cap xs) (hl : ys.length = xs.length) : OwnS cBer 5 T (sortWorldK cBer 5 w g 0 n ys.toArray os) g cap ys := by
  have hg := h.lt
  obtain ⟨cur, h1, h2, h3, h4, h5⟩ := h
  refine ⟨putCells id 0 (flatK cBer 5 ys.toArray) cur, ?_, by simp [putCells, h2], by omega, h4, ?_⟩
  · show ((w.heap.modify g (onCells (putCells id 0 (flatK cBer 5 ys.toArray)))) ++ os)[g]? = _
    rw [Array.getElem?_append_left (by simpa using hg), Array.getElem?_modify, if_pos rfl]
    rw [h1]
    rfl
  · intro i x hx j v hv
    have hi : i < ys.length := by
      rcases Nat.lt_or_ge i ys.length with h | h
      · exact h
      · rw [List.getElem?_eq_none h] at hx; cases hx
    have hj : j < 5 := by
      rcases Nat.lt_or_ge j 5 with h | h
      · exact h
      · rw [List.getElem?_eq_none (by rw [len_cBer]; exact h)] at hv; cases hv
    have ht : i * 5 + j < ys.length * 5 := by omega
    have hcs : i * 5 + j < cur.size := by omega
    obtain ⟨hi2, hf⟩ := flat_at ys (i * 5 + j) ht
    have e1 : (i * 5 + j) / 5 = i := by omega
    have e2 : (i * 5 + j) % 5 = j := by omega
    have hx2 : ys[(i * 5 + j) / 5] = x := by
      rw [List.getElem?_eq_getElem hi, Option.some.injEq] at hx
      rw [← hx]
      congr 1
    rw [hx2, e2] at hf
    have hv2 : (cBer x)[j]! = v := by
      have := cBer_at x j hj
      rw [hv, Option.some.injEq] at this
      exact this.symm
    unfold putCells
    rw [Array.getElem?_mapIdx, Array.getElem?_eq_getElem hcs]
    simp only [Option.map_some, Option.some.injEq]
    rw [if_pos ⟨Nat.zero_le _, by simpa using ht⟩]
    show (flatK cBer 5 ys.toArray)[i * 5 + j - 0]! = v
    rw [Nat.sub_zero, hf, hv2]
theorem grown_sortK {w : World} {g n : Nat} {ys : Array (Int × Int × Int × Int × Int)} {os : Array Obj} : w.grownBy (sortWorldK cBer 5 w g 0 n ys os) (some g) := by
  refine ⟨rfl, rfl, rfl, ?_, fun i hi hne => ?_⟩
  · show w.heap.size ≤ ((w.heap.modify g _) ++ os).size
    simp
  · show ((w.heap.modify g _) ++ os)[i]? = _
    rw [Array.getElem?_append_left (by simpa using hi), Array.getElem?_modify, if_neg (fun h => hne (by rw [h]))]
theorem c_sortBer (T : TypeId) (g cap : Nat) (xs : List (Int × Int × Int × Int × Int)) (w : World) (h : OwnS cBer 5 T w g cap xs) (hl : xs.length ≤ 12) :
    Calls Try.prog 68 #[.slice (some ⟨g, 0, none⟩) xs.length cap, .func (.func 69) #[] #[]] w fun e w' => e = .returned (.tuple #[]) ∧ ∃ ys : List (Int × Int × Int × Int × Int), ys.Perm xs ∧ (∀ (i j : Nat) (hj : j < ys.length) (hi : i < j), ys[i].2.1 ≤ ys[j].2.1) ∧ OwnS cBer 5 T w' g cap ys ∧ w.grownBy w' (some g) := by
  have eg : ∀ args w, (callFunc 69 args).run Try.prog w = .ok (.enter 69 args) w := enters_of Try.func69 (by kernel_rfl) rfl
  have hcon := AnyQ.slices_SortFunc_small_sorted sortBer 5 Try.isAgg48 Try.sizeOf48 cBer len_cBer one_cBer' cmpCell 69 #[] swo_cell g 0 cap xs.toArray w eg (lays_cmp g 0 _ w) h.holdsK h.lt (by simpa using hl) len_small
  change Calls Try.prog 68 _ _ _ at hcon
  rw [List.size_toArray] at hcon
  refine hcon.mono ?_
  rintro e w' ⟨rfl, d', n, os, hp, hs, rfl⟩
  obtain ⟨hp1, _, hp3⟩ := hp
  have hsz : d'.toList.length = xs.length := by simpa using hp1
  refine ⟨rfl, d'.toList, ?_, ?_, ?_, grown_sortK⟩
  · have e1 : d'.extract 0 xs.length = d' := by
      have : xs.length = d'.size := by simpa using hsz.symm
      rw [this, Array.extract_size]
    have e2 : xs.toArray.extract 0 xs.length = xs.toArray := by
      have : xs.length = xs.toArray.size := by simp
      rw [this, Array.extract_size]
    rw [e1, e2] at hp3
    exact hp3
  · intro i j hj hi
    have hj2 : j < d'.size := by simpa using hj
    have := hs i j (Nat.zero_le _) hi (by rw [← hsz]; exact hj)
    rw [lt_cell] at this
    rw [getElem!_pos d' j hj2, getElem!_pos d' i (by omega)] at this
    simp only [decide_eq_false_iff_not, Int.not_lt] at this
    simpa using this
  · have := OwnS.sortedK (n := n) (os := os) h hsz
    simpa using this

end Go.Proofs.Ytfipmalomhflgaa
