import Derived.Test.YtfipmalomhflgaaQY03
import Derived.Test.YtfipmalomhflgaaQY07
import Derived.Test.YtfipmalomhflgaaQY08
import Derived.Test.YtfipmalomhflgaaQY05
namespace Go.Proofs.Ytfipmalomhflgaa
set_option linter.unusedSimpArgs false
set_option linter.unusedVariables false
open Go.RowKit

theorem OwnS.emp {α : Type} {cf : α → List Value} {sz : Nat} {T : TypeId} {w : World} {g : Nat} (h : w.heap[g]? = some (.cells #[] T (0, 0))) : OwnS cf sz T w g 0 ([] : List α) :=
  ⟨#[], h, by simp, by simp, by unfold maxLen; omega, fun i x h => by simp at h⟩
theorem blk_ne {g n : Nat} (h : g ≠ n) : some g ≠ blkO (some (⟨n, 0, none⟩ : Addr)) := by
  intro e
  simp only [blkO, Option.map_some, Option.some.injEq] at e
  exact h e
theorem blk_neb {g : Nat} {A : Option Addr} (h : NeB g A) : some g ≠ blkO A := by
  intro e
  cases A with
  | none => cases e
  | some a =>
    simp only [blkO, Option.map_some, Option.some.injEq] at e
    exact h a rfl e.symm
theorem OwnS.belowW {α : Type} {cf : α → List Value} {sz : Nat} {T : TypeId} {w w' : World} {g cap : Nat} {xs : List α} (h : OwnS cf sz T w g cap xs) (hb : Below w.heap.size w w') : OwnS cf sz T w' g cap xs := h.block (hb.block g h.lt)
theorem heapW {w w' : World} {n : Nat} {o : Obj} (h : w.heap[n]? = some o) (hl : n < w.heap.size) (hb : Below w.heap.size w w') : w'.heap[n]? = some o := (hb.block n hl).trans h
theorem wlist_nm {P : Program} {ops : Array Oper} {Q : Exit → Act → World → Prop} {l : List Oper} {a : Act} {w : World} (h : ∀ W, W = w → wpList P ops Q l a W) : wpList P ops Q l a w := h w rfl
set_option maxRecDepth 100000 in
set_option maxHeartbeats 8000000 in
theorem c_impl_LyingAt (q : Int) (A : Option Addr) (xs : List (Int × Int × Int × Int × Int)) (cap : Nat) (h : Int) (w : World) (hx : Rds cBer 5 w A xs) (hn : xs.length ≤ 9223372036854775807) (hcap : xs.length ≤ cap) (hmax : cap ≤ 9223372036854775807) :
    Calls Try.prog 40 #[.int .i64 q, .slice A xs.length cap, .int .i64 h] w fun e w' => ∃ A' cap', e = .returned (.tuple #[.slice A' (lyV q xs h).1.length cap', .bool (lyV q xs h).2]) ∧ FreshA cIn 1 3 w.heap.size w' A' cap' (lyV q xs h).1 ∧ Below w.heap.size w w' := by
  obtain ⟨i0, hI0, hI1, hI2, hI3⟩ := info_parts info_Ber
  obtain ⟨n0, hJ0, hJ1, hJ2, hJ3⟩ := info_parts info_In
  by_cases hs0 : hourOk q xs h = true
  rotate_left
  · have hn0 : hourOk q xs h = false := Bool.eq_false_iff.2 hs0
    have hV : lyV q xs h = ([], false) := lyV_no hn0
    simp only [hV]
    clear hs0 hV
    go_enter Try.func40, Try.ntmps40
    go_wp2_with (first | (go_at_call 66; refine (c_impl_isHour _ _ _ _ _ _ (by first | assumption | exact Rds.below hx (by (repeat' (first | exact Below.refl _ _ | assumption | refine Below.setCell ?_ ?_ _ | refine Below.drew ?_ | refine Below.alloc ?_ ?_ _ | refine Below.trans ?_ (Below.mono (by assumption) ?_) | (simp; done) | (simp; omega) | omega)))) (by omega) (by omega) (by omega)).mono ?_; rintro e w' ⟨rfl, hb⟩; have hc := cellOf hb; have hf := frozOf hb; have hz := sizeOf hb; try simp at hz))
    all_goals go_ret2
    all_goals exact ⟨none, 0, rfl, .inl ⟨rfl, rfl, rfl⟩, by (repeat' (first | exact Below.refl _ _ | assumption | refine Below.setCell ?_ ?_ _ | refine Below.drew ?_ | refine Below.alloc ?_ ?_ _ | refine Below.trans ?_ (Below.mono (by assumption) ?_) | (simp; done) | (simp; omega) | omega))⟩
  obtain ⟨hv, hh⟩ := hourOk_bd hs0
  have hV : lyV q xs h = (lyTo xs h q.toNat, true) := lyV_yes hs0
  simp only [hV]
  clear hV
  have hxl := berV_len hv
  have HV := hid hv
  clear hv
  go_enter Try.func40, Try.ntmps40
  go_wp2_with (fail)
  refine (c_impl_isHour q A xs cap h _ hx (by omega) (by omega) (by omega)).mono ?_
  rintro e W0 ⟨rfl, hb0⟩
  simp only [hs0]
  clear hs0
  have hz0 := hb0.size
  go_wp2_with (fail)
  go_loopw [8, 23] (fun v i wr => ∃ (k g cp : Nat), k ≤ xs.length ∧ i = .int .i64 k ∧ v = .slice (some ⟨g, 0, none⟩) (lieL xs h k).length cp ∧ Hid (OwnS cBer 5 48 wr g cp (lieL xs h k)) ∧ W0.heap.size ≤ g ∧ g ≠ W0.heap.size + 1 ∧ Hid (wr.heap[W0.heap.size + 1]? = some (.cells #[] 3 (0, 0))) ∧ W0.heap.size + 1 < wr.heap.size ∧ Below w.heap.size w wr) (fun _ i _ => xs.length - (intOf i).toNat)
  case atStart =>
    refine ⟨0, W0.heap.size, 0, Nat.zero_le _, rfl, rfl, hid (OwnS.emp ?_), by omega, by omega, hid ?_, by simp, by (repeat' (first | exact Below.refl _ _ | assumption | refine Below.setCell ?_ ?_ _ | refine Below.drew ?_ | refine Below.alloc ?_ ?_ _ | refine Below.trans ?_ (Below.mono (by assumption) ?_) | (simp; done) | (simp; omega) | omega))⟩
    · first | exact heap_alloc2g rfl | exact heap_alloc2gd rfl
    · first | exact heap_alloc_newg (by simp) | exact heap_alloc_newgd (by simp)
  case round =>
    obtain ⟨k, g, cp, hk, rfl, rfl, HO, hBg, hgn, HH, hlw, hbr⟩ := hrel
    have hc := cellOf hbr
    have hf := frozOf hbr
    have hz := sizeOf hbr
    have hgl := HO.out.lt
    by_cases hlt : k < xs.length
    rotate_left
    · obtain rfl : k = xs.length := by omega
      have hll := lieL_len xs h xs.length
      go_wp2_with (fail)
      refine (c_sortBer _ g cp _ _ HO.out (by omega)).mono ?_
      rintro e W2 ⟨rfl, ys, hp, hs, hO2, hg2⟩
      have HE := hid (lie_eq HV.out hp hs)
      have hm1 : ys.length ≤ (lieL xs h xs.length).length := Nat.le_of_eq hp.length_eq
      have hm2 : (lieL xs h xs.length).length ≤ ys.length := Nat.le_of_eq hp.length_eq.symm
      have HO2 := hid hO2
      have hz2 := hg2.size
      have HH2 := hid ((hg2.block (W0.heap.size + 1) hlw (fun e => hgn (Option.some.inj e).symm)).trans HH.out)
      have hb2 : Below w.heap.size w W2 := hbr.grown hg2 (by omega) (fun j hj => by cases hj; omega)
      clear hp hs hO2 hg2 hc hf hz hbr HO HH hx
      generalize (lieL xs h xs.length).length = m at *
      go_wp2_with (fail)
      rename World => wo
      go_loopw [9, 46] (fun v i wr => ∃ (j : Nat) (A2 : Option Addr) (cp2 : Nat) (out : List Int), j ≤ m ∧ i = .int .i64 j ∧ v = .slice A2 out.length cp2 ∧ Hid (FreshA cIn 1 3 w.heap.size wr A2 cp2 out) ∧ NeB g A2 ∧ Hid (OwnS cBer 5 48 wr g cp ys) ∧ Hid (out = (ys.take j).map (·.1)) ∧ Below w.heap.size w wr) (fun _ i _ => m - (intOf i).toNat)
      case atStart => exact ⟨0, _, 0, [], Nat.zero_le _, rfl, rfl, hid (.inr ⟨_, rfl, by omega, OwnS.emp HH2.out⟩), fun a ha => by cases ha; exact Ne.symm hgn, HO2, hid rfl, hb2⟩
      case round =>
        obtain ⟨j, A2, cp2, out, hj, rfl, rfl, HF, hng, HO3, HT, hbr⟩ := hrel
        have hz := sizeOf hbr
        by_cases hjm : j < m
        rotate_left
        · obtain rfl : j = m := by omega
          have HT2 := hid (HT.out.trans (by rw [List.take_of_length_le hm1, HE.out]))
          go_wp2_with (fail)
          go_ret2
          exact ⟨A2, cp2, by rw [← HT2.out]; rfl, by rw [← HT2.out]; exact HF.out, hbr⟩
        have hjl : j < ys.length := by omega
        have hol : out.length ≤ 12 := by rw [HT.out, List.length_map, List.length_take]; omega
        have HS := hid (show (ys.take (j + 1)).map (·.1) = (ys.take j).map (·.1) ++ [ys[j].1] by rw [List.take_succ_eq_append_getElem hjl, List.map_append]; rfl)
        have hF3 : FreshA cBer 5 48 0 wr (some ⟨g, 0, none⟩) cp ys := .inr ⟨g, rfl, Nat.zero_le _, HO3.out⟩
        obtain ⟨b9, o9, hA9, _, hcy⟩ := hF3.rds j ys[j] (List.getElem?_eq_getElem hjl)
        cases hA9
        have k0 := hcy 0 _ rfl
        have k1 := hcy 1 _ rfl
        have k2 := hcy 2 _ rfl
        have k3 := hcy 3 _ rfl
        have k4 := hcy 4 _ rfl
        simp only [Nat.add_zero, Nat.zero_add] at k0 k1 k2 k3 k4
        have hgl3 := HO3.out.lt
        clear hcy hF3
        generalize ys[j] = y at *
        go_wp2_with (at_builtin; refine wlist_nm ?_)
        intro V hV
        have hbV : Below wr.heap.size wr V := by rw [hV]; (repeat' (first | with_reducible exact Below.refl _ _ | with_reducible assumption | with_reducible refine Below.setCell ?_ ?_ _ | with_reducible refine Below.drew ?_ | with_reducible refine Below.alloc ?_ ?_ _ | with_reducible refine Below.trans ?_ (Below.mono (by assumption) ?_) | (dsimp only; omega) | (simp; done) | (simp; omega) | omega))
        have hzV := hbV.size
        refine wpList_pushesR (xs := out) rfl (.tmp 50) (.tmp 53) 40 rfl 3 n0 _ 8 Try.underlying40 hJ0 hJ1 hJ2 hJ3 rfl (by decide) (fun _ => rfl) one_In _ rfl rfl (HF.out.below hbV) [y.1] 1 rfl _ _ rfl (by rw [hV]; exact Rds.ofBox (by first | exact heap_alloc_newg (by simp) | exact heap_alloc_newgd (by simp))) (by unfold maxLen; omega) (by first | omega | (simp; omega)) (by omega) ?_
        intro A3 cp3 W3 hF4 hg4 hat4
        clear hV
        have hng3 : NeB g A3 := NeB.next hng hat4 (by omega)
        have hz3 := hg4.size
        have HO4 := hid (OwnS.block HO3.out ((hg4.block g (by omega) (blk_neb hng)).trans (hbV.block g hgl3)))
        have hb4 : Below w.heap.size w W3 := below_grown (Below.trans hbr (Below.mono hbV (by omega))) (by omega) hg4 (HF.out.lo)
        go_wp2_with (fail)
        go_roundw
        case rel => exact ⟨j + 1, A3, cp3, out ++ [y.1], by omega, by go_num, by simp, hid hF4, hng3, HO4, hid (by rw [HS.out, HT.out]), hb4⟩
        case measure => simp [intOf]; omega
    have HS := hid (lieL_succ xs h k hlt)
    have hll := lieL_len xs h k
    obtain ⟨bx, ox, rfl, hbx, hcx⟩ := hx k xs[k] (List.getElem?_eq_getElem hlt)
    have hx0 := hcx 0 _ rfl
    have hx1 := hcx 1 _ rfl
    have hx2 := hcx 2 _ rfl
    have hx3 := hcx 3 _ rfl
    have hx4 := hcx 4 _ rfl
    simp only [Nat.add_zero] at hx0
    clear hcx hx
    generalize xs[k] = x at *
    by_cases ha : x.2.2.2.1 ≤ h
    rotate_left
    · have HN := hid (show (if lies h x = true then [x] else []) = [] by rw [if_neg]; simp only [lies, decide_eq_true_eq]; intro e; omega)
      go_wp2_with (fail)
      go_roundw
      case rel =>
        have he : lieL xs h (k + 1) = lieL xs h k := by rw [HS.out, HN.out, List.append_nil]
        exact ⟨k + 1, g, cp, by omega, by go_num, by rw [he], hid (by rw [he]; exact OwnS.belowW HO.out (by (repeat' (first | exact Below.refl _ _ | assumption | refine Below.setCell ?_ ?_ _ | refine Below.drew ?_ | refine Below.alloc ?_ ?_ _ | refine Below.trans ?_ (Below.mono (by assumption) ?_) | (simp; done) | (simp; omega) | omega)))), hBg, hgn, hid (heapW HH.out hlw (by (repeat' (first | exact Below.refl _ _ | assumption | refine Below.setCell ?_ ?_ _ | refine Below.drew ?_ | refine Below.alloc ?_ ?_ _ | refine Below.trans ?_ (Below.mono (by assumption) ?_) | (simp; done) | (simp; omega) | omega)))), by simp [World.setCell]; omega, by (repeat' (first | exact Below.refl _ _ | assumption | refine Below.setCell ?_ ?_ _ | refine Below.drew ?_ | refine Below.alloc ?_ ?_ _ | refine Below.trans ?_ (Below.mono (by assumption) ?_) | (simp; done) | (simp; omega) | omega))⟩
      case measure => simp [intOf]; omega
    by_cases hd : h < x.2.2.2.2
    rotate_left
    · have HN := hid (show (if lies h x = true then [x] else []) = [] by rw [if_neg]; simp only [lies, decide_eq_true_eq]; intro e; omega)
      go_wp2_with (fail)
      go_roundw
      case rel =>
        have he : lieL xs h (k + 1) = lieL xs h k := by rw [HS.out, HN.out, List.append_nil]
        exact ⟨k + 1, g, cp, by omega, by go_num, by rw [he], hid (by rw [he]; exact OwnS.belowW HO.out (by (repeat' (first | exact Below.refl _ _ | assumption | refine Below.setCell ?_ ?_ _ | refine Below.drew ?_ | refine Below.alloc ?_ ?_ _ | refine Below.trans ?_ (Below.mono (by assumption) ?_) | (simp; done) | (simp; omega) | omega)))), hBg, hgn, hid (heapW HH.out hlw (by (repeat' (first | exact Below.refl _ _ | assumption | refine Below.setCell ?_ ?_ _ | refine Below.drew ?_ | refine Below.alloc ?_ ?_ _ | refine Below.trans ?_ (Below.mono (by assumption) ?_) | (simp; done) | (simp; omega) | omega)))), by simp [World.setCell]; omega, by (repeat' (first | exact Below.refl _ _ | assumption | refine Below.setCell ?_ ?_ _ | refine Below.drew ?_ | refine Below.alloc ?_ ?_ _ | refine Below.trans ?_ (Below.mono (by assumption) ?_) | (simp; done) | (simp; omega) | omega))⟩
      case measure => simp [intOf]; omega
    have HN := hid (show (if lies h x = true then [x] else []) = [x] by rw [if_pos]; simp only [lies, decide_eq_true_eq]; omega)
    go_wp2_with (at_builtin; refine wlist_nm ?_)
    intro V hV
    have hbV : Below wr.heap.size wr V := by rw [hV]; (repeat' (first | with_reducible exact Below.refl _ _ | with_reducible assumption | with_reducible refine Below.setCell ?_ ?_ _ | with_reducible refine Below.drew ?_ | with_reducible refine Below.alloc ?_ ?_ _ | with_reducible refine Below.trans ?_ (Below.mono (by assumption) ?_) | (dsimp only; omega) | (simp; done) | (simp; omega) | omega))
    have hzV := hbV.size
    refine wpList_pushesR (xs := lieL xs h k) rfl (.tmp 37) (.tmp 39) 25 rfl 48 i0 _ 40 Try.underlying25 hI0 hI1 hI2 hI3 rfl (by decide) (fun _ => rfl) one_Ber _ rfl rfl (FreshA.below (B := W0.heap.size) (.inr ⟨g, rfl, hBg, HO.out⟩) hbV) [x] 1 rfl _ _ rfl (by rw [hV]; exact Rds.ofBox (by first | exact heap_alloc_newg (by simp) | exact heap_alloc_newgd (by simp))) (by unfold maxLen; omega) (by first | omega | (simp; omega)) (by omega) ?_
    intro A3 cp3 W3 hF3 hg3 hat3
    clear hV
    obtain ⟨g3, rfl, hBg3, hO3⟩ := FreshA.row hF3 (by simp)
    have hz3 := hg3.size
    have hgn3 : g3 ≠ W0.heap.size + 1 := by
      rcases hat3 with e | e
      · simp only [blkO, Option.map_some, Option.some.injEq] at e; omega
      · simp only [blkO, Option.map_some, Option.some.injEq] at e; omega
    have HH3 := hid ((hg3.block (W0.heap.size + 1) (by omega) (blk_ne (Ne.symm hgn))).trans ((hbV.block _ hlw).trans HH.out))
    have hb3 : Below w.heap.size w W3 := below_grown (Below.trans hbr (Below.mono hbV (by omega))) (by omega) hg3 (fun a ha => by cases ha; show w.heap.size ≤ g; omega)
    have HO3 := hid hO3
    clear hO3 hF3 hg3 hat3
    go_wp2_with (fail)
    go_roundw
    case rel =>
      have he : lieL xs h (k + 1) = lieL xs h k ++ [x] := by rw [HS.out, HN.out]
      exact ⟨k + 1, g3, cp3, by omega, by go_num, by rw [he]; simp, hid (by rw [he]; exact HO3.out), hBg3, hgn3, HH3, by omega, hb3⟩
    case measure => simp [intOf]; omega

end Go.Proofs.Ytfipmalomhflgaa
