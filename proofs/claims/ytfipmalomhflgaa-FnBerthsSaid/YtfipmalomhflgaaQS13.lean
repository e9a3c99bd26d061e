import Derived.Test.YtfipmalomhflgaaQS07
import Derived.Test.YtfipmalomhflgaaQS09
import Derived.Deep.RegionHeld3
import Derived.BigQuiet
import Derived.Deep.QuietTactic
import Derived.Test.YtfipmalomhflgaaQS11
namespace Go.Proofs.Ytfipmalomhflgaa
set_option linter.unusedSimpArgs false
set_option linter.unusedVariables false
open Go.RowKit

def FABi (q : Int) (A : Option Addr) (xs : List (Int × Int × Int × Int × Int)) (cap k : Nat) (z1 z2 z3 z4 z5 : Int) (B : Nat) (iq : Nat) (v : Value) (w1 : World) : Prop := match iq with
  | 0 => SlO cBer 5 48 B ([] : List (Int × Int × Int × Int × Int)) 0 v w1
  | 1 => v = .slice A xs.length cap
  | 2 => SlO cBer 5 48 B xs xs.length v w1
  | 3 => v = .int .i64 ((k : Nat) : Int)
  | 4 => v = .agg #[.int .i64 z1, .int .i64 z2, .int .i64 z3, .int .i64 z4, .int .i64 z5]
  | 5 => BxO B (.cells (cBer (z1, z2, z3, z4, z5)).toArray 48 (0, 0)) v w1
  | 6 => SlO cBer 5 48 B (insI xs (z1, z2, z3, z4, z5)) (xs.length + 1) v w1
  | _ => True
set_option maxRecDepth 100000 in
set_option maxHeartbeats 4000000 in
theorem c_impl_AddBerth (q : Int) (A : Option Addr) (xs : List (Int × Int × Int × Int × Int)) (cap : Nat) (z1 z2 z3 z4 z5 : Int) (w : World) (hx : Rds cBer 5 w A xs) (hn : xs.length ≤ 9223372036854775807) (hcap : xs.length ≤ cap) (hmax : cap ≤ 9223372036854775807) :
    Calls Try.prog 38 #[.int .i64 q, .slice A xs.length cap, .agg #[.int .i64 z1, .int .i64 z2, .int .i64 z3, .int .i64 z4, .int .i64 z5]] w fun e w' => ∃ A' cap', e = .returned (.tuple #[.slice A' (addV q xs (z1, z2, z3, z4, z5)).1.length cap', .bool (addV q xs (z1, z2, z3, z4, z5)).2]) ∧ FreshA cBer 5 48 w.heap.size w' A' cap' (addV q xs (z1, z2, z3, z4, z5)).1 ∧ Below w.heap.size w w' := by
  obtain ⟨i0, hI0, hI1, hI2, hI3⟩ := info_parts info_Ber
  rcases A with _ | ⟨bx, ox, sp⟩
  · cases hg : berV q xs
    · have hV : addV q xs (z1, z2, z3, z4, z5) = ([], false) := by simp [addV, hg]
      rw [hV]
      simp only
      clear hV
      go_enter Try.func38, Try.ntmps38
      go_wp2_with (fail)
      refine (c_impl_IsBerthing q (none) xs cap _ (by first | exact hx | exact Rds.below hx (by (repeat' (first | exact Below.refl _ _ | assumption | refine Below.setCell ?_ ?_ _ | refine Below.drew ?_ | refine Below.alloc ?_ ?_ _ | refine Below.trans ?_ (Below.mono (by assumption) ?_) | (simp; done) | (simp; omega) | omega)))) hn hcap hmax).mono ?_
      rintro e W1 ⟨rfl, hb1⟩
      have hc1 := cellOf hb1; have hf1 := frozOf hb1; have hz1 := sizeOf hb1; (try simp at hz1)
      simp only [hg]
      go_wp2_with (fail)
      go_ret2
      exact ⟨none, 0, rfl, .inl ⟨rfl, rfl, rfl⟩, by (repeat' (first | exact Below.refl _ _ | assumption | refine Below.setCell ?_ ?_ _ | refine Below.drew ?_ | refine Below.alloc ?_ ?_ _ | refine Below.trans ?_ (Below.mono (by assumption) ?_) | (simp; done) | (simp; omega) | omega))⟩
    have hlen : xs.length ≤ 10 := berV_len hg
    go_enter Try.func38, Try.ntmps38
    go_wp2_with (fail)
    refine (c_impl_IsBerthing q (none) xs cap _ (by first | exact hx | exact Rds.below hx (by (repeat' (first | exact Below.refl _ _ | assumption | refine Below.setCell ?_ ?_ _ | refine Below.drew ?_ | refine Below.alloc ?_ ?_ _ | refine Below.trans ?_ (Below.mono (by assumption) ?_) | (simp; done) | (simp; omega) | omega)))) hn hcap hmax).mono ?_
    rintro e W1 ⟨rfl, hb1⟩
    have hc1 := cellOf hb1; have hf1 := frozOf hb1; have hz1 := sizeOf hb1; (try simp at hz1)
    simp only [hg]
    go_wp2_with (fail)
    have m0 : W1.cell? ⟨w.heap.size, 0, none⟩ = some (.int .i64 z1) := by first | (simp [go_sem, ↓IntWalk.iteOmega, *]; done) | (simp [go_sem, ↓IntWalk.iteOmega, *]; intros; omega)
    have m1 : W1.cell? ⟨w.heap.size, 1, none⟩ = some (.int .i64 z2) := by first | (simp [go_sem, ↓IntWalk.iteOmega, *]; done) | (simp [go_sem, ↓IntWalk.iteOmega, *]; intros; omega)
    have m2 : W1.cell? ⟨w.heap.size, 2, none⟩ = some (.int .i64 z3) := by first | (simp [go_sem, ↓IntWalk.iteOmega, *]; done) | (simp [go_sem, ↓IntWalk.iteOmega, *]; intros; omega)
    have m3 : W1.cell? ⟨w.heap.size, 3, none⟩ = some (.int .i64 z4) := by first | (simp [go_sem, ↓IntWalk.iteOmega, *]; done) | (simp [go_sem, ↓IntWalk.iteOmega, *]; intros; omega)
    have m4 : W1.cell? ⟨w.heap.size, 4, none⟩ = some (.int .i64 z5) := by first | (simp [go_sem, ↓IntWalk.iteOmega, *]; done) | (simp [go_sem, ↓IntWalk.iteOmega, *]; intros; omega)
    have hbW : Below w.heap.size w W1 := by (repeat' (first | exact Below.refl _ _ | assumption | refine Below.setCell ?_ ?_ _ | refine Below.drew ?_ | refine Below.alloc ?_ ?_ _ | refine Below.trans ?_ (Below.mono (by assumption) ?_) | (simp; done) | (simp; omega) | omega))
    clear hc1 hf1 hb1
    go_loopw [8] (fun iv wr => ∃ k : Nat, k ≤ xs.length ∧ iv = .int .i64 k ∧ (∀ q (hq : q < xs.length), q < k → xs[q].1 < z1) ∧ Below W1.heap.size W1 wr) (fun iv _ => xs.length - (intOf iv).toNat)
    case atStart => exact ⟨0, Nat.zero_le _, rfl, fun q hq hk => absurd hk (Nat.not_lt_zero q), Below.refl _ _⟩
    case round =>
      obtain ⟨k, hk, rfl, hl, hbr⟩ := hrel
      have HL := hid hl
      clear hl
      have hzr := hbr.size
      have n0 := (hbr.cell (p := ⟨w.heap.size, 0, none⟩) (by show w.heap.size < _; omega)).trans m0
      have n1 := (hbr.cell (p := ⟨w.heap.size, 1, none⟩) (by show w.heap.size < _; omega)).trans m1
      have n2 := (hbr.cell (p := ⟨w.heap.size, 2, none⟩) (by show w.heap.size < _; omega)).trans m2
      have n3 := (hbr.cell (p := ⟨w.heap.size, 3, none⟩) (by show w.heap.size < _; omega)).trans m3
      have n4 := (hbr.cell (p := ⟨w.heap.size, 4, none⟩) (by show w.heap.size < _; omega)).trans m4
      have hbw : Below w.heap.size w wr := Below.trans hbW (Below.mono hbr (by omega))
      have hbw' := hid hbw
      clear m0 m1 m2 m3 m4
      by_cases hgo : ∃ h : k < xs.length, xs[k].1 < z1
      · obtain ⟨hlt, hlf⟩ := hgo
        exact absurd (hx k xs[k] (List.getElem?_eq_getElem hlt)) (fun ⟨_, _, hA, _⟩ => by cases hA)
      have hpk : posI z1 xs = k := posI_at hk HL.out (fun h h2 => hgo ⟨h, h2⟩)
      have hins : insI xs (z1, z2, z3, z4, z5) = xs.take k ++ (z1, z2, z3, z4, z5) :: xs.drop k := by simp only [insI, hpk]
      have HINS := hid hins
      have HINL := hid (insI_len xs (z1, z2, z3, z4, z5))
      clear hins hpk HL
      have hgoK := hid hgo
      clear hgo
      have hlt : ¬ k < xs.length := fun hlt => (by exact absurd (hx k xs[k] (List.getElem?_eq_getElem hlt)) (fun ⟨_, _, hA, _⟩ => by cases hA))
      obtain rfl : k = xs.length := by omega
      go_wp2_with (fail)
      go_quiet (fail)
      go_wp2_with (fail)
      refine wp_named ?_
      intro WA hWA
      have p0 : WA.cell? ⟨w.heap.size, 0, none⟩ = some (.int .i64 z1) := by rw [hWA]; exact n0
      have p1 : WA.cell? ⟨w.heap.size, 1, none⟩ = some (.int .i64 z2) := by rw [hWA]; exact n1
      have p2 : WA.cell? ⟨w.heap.size, 2, none⟩ = some (.int .i64 z3) := by rw [hWA]; exact n2
      have p3 : WA.cell? ⟨w.heap.size, 3, none⟩ = some (.int .i64 z4) := by rw [hWA]; exact n3
      have p4 : WA.cell? ⟨w.heap.size, 4, none⟩ = some (.int .i64 z5) := by rw [hWA]; exact n4
      have hzA : wr.heap.size ≤ WA.heap.size := by rw [hWA]; exact Nat.le_refl _
      have hbA : Below w.heap.size w WA := by rw [hWA]; first | exact Below.drew hbw'.out | exact below_dn hbw'.out | exact hbw'.out
      have HBA := hid hbA
      have HXA := hid (Rds.below hx hbA)
      clear hWA n0 n1 n2 n3 n4 hbr hbw hbw' hbW hbA
      have HKEEP : Hid (∀ w', Below WA.heap.size WA w' → w'.cell? ⟨w.heap.size, 0, none⟩ = some (.int .i64 z1) ∧ w'.cell? ⟨w.heap.size, 1, none⟩ = some (.int .i64 z2) ∧ w'.cell? ⟨w.heap.size, 2, none⟩ = some (.int .i64 z3) ∧ w'.cell? ⟨w.heap.size, 3, none⟩ = some (.int .i64 z4) ∧ w'.cell? ⟨w.heap.size, 4, none⟩ = some (.int .i64 z5)) := fun w' hb => ⟨(hb.cell (p := ⟨w.heap.size, 0, none⟩) (by show w.heap.size < _; omega)).trans p0, (hb.cell (p := ⟨w.heap.size, 1, none⟩) (by show w.heap.size < _; omega)).trans p1, (hb.cell (p := ⟨w.heap.size, 2, none⟩) (by show w.heap.size < _; omega)).trans p2, (hb.cell (p := ⟨w.heap.size, 3, none⟩) (by show w.heap.size < _; omega)).trans p3, (hb.cell (p := ⟨w.heap.size, 4, none⟩) (by show w.heap.size < _; omega)).trans p4⟩
      clear p0 p1 p2 p3 p4
      refine wp_region_o (n := 7) bkI [0, 2, 5, 6] [0, 2] (FABi q (none) xs cap xs.length z1 z2 z3 z4 z5 WA.heap.size) rfl (by kernel_rfl) (by kernel_rfl) (by intro j hj; simp at hj ⊢; omega) (fun _ _ d _ _ h => by cases d <;> exact h) ?_ ?_ ?_ ?_
      · intro iq v w1 w2 row hF hg hb hl
        match iq with
        | 0 => exact SlO.keep hF hg (hb (by decide))
        | 1 => exact hF
        | 2 => exact SlO.keep hF hg (hb (by decide))
        | 3 => exact hF
        | 4 => exact hF
        | 5 => exact BxO.keep hF hg (hb (by decide))
        | 6 => exact SlO.keep hF hg (hb (by decide))
        | m + 7 => exact (show True from trivial)
      · intro iq hi v w1 hF
        have hcase : iq = 0 ∨ iq = 2 ∨ iq = 5 ∨ iq = 6 := by simpa using hi
        rcases hcase with rfl | rfl | rfl | rfl
        · exact SlO.at_ hF
        · exact SlO.at_ hF
        · exact BxO.at_ hF
        · exact SlO.at_ hF
      · intro iq o hi ho vals w1 hb1 hf hd
        match iq, hi with
        | 0, _ =>
          injection ho with ho
          subst ho
          clear hf hd
          have hz1 := hb1.size
          simp only [fillA, List.take, List.drop, put_none, Act.put, List.setIfInBounds_toArray, List.set_cons_zero, List.set_cons_succ, Nat.reduceAdd]
          go_wp2_with (fail)
          exact ⟨rfl, rfl, none, .inl rfl, World.grownBy_alloc _ _ _, ⟨_, _, rfl, FreshA.newh rfl hz1⟩, fun _ => .inr (.inr ⟨_, rfl, Nat.le_refl _⟩)⟩
        | 1, _ =>
          injection ho with ho
          subst ho
          clear hf hd
          have hz1 := hb1.size
          simp only [fillA, List.take, List.drop, put_none, Act.put, List.setIfInBounds_toArray, List.set_cons_zero, List.set_cons_succ, Nat.reduceAdd]
          go_wp2_with (fail)
          exact ⟨rfl, rfl, none, .inl rfl, World.grownBy.refl _ _, (by first | rfl | (simp [FABi]; done) | (simp [FABi, *]; done) | (simp [FABi, gotV]; done) | (simp [FABi, gotV, *]; done)), fun h => absurd h (by decide)⟩
        | 2, _ =>
          injection ho with ho
          subst ho
          obtain ⟨A0, c0, e0, hF0⟩ := hf 0 (by decide) (by kernel_rfl)
          have e1 : vals 1 = .slice (none) xs.length cap := hf 1 (by decide) (by kernel_rfl)
          clear hf hd
          have hz1 := hb1.size
          simp only [fillA, List.take, List.drop, put_none, Act.put, List.setIfInBounds_toArray, List.set_cons_zero, List.set_cons_succ, Nat.reduceAdd, e0, e1]
          refine wpList_pushesR (xs := ([] : List (Int × Int × Int × Int × Int))) rfl (.tmp 30) (.tmp 31) 25 rfl 48 i0 _ 40 Try.underlying25 hI0 hI1 hI2 hI3 rfl (by decide) (fun _ => rfl) one_Ber 0 rfl rfl hF0 xs xs.length rfl (none) _ rfl (Rds.below HXA.out hb1) (by unfold maxLen; omega) (by omega) hz1 ?_
          intro A' cp' w' hF' hg' hat'
          exact RQO_of (.slice A' (0 + xs.length) cp') rfl (by first | rfl | (simp [gotV]; done) | (simp [gotV, *]; done)) ⟨blkO A0, .inr ⟨0, by decide, by decide, by kernel_rfl, by rw [e0, bkI_sl]⟩, hg', ⟨A', cp', by first | rfl | (simp; done) | (congr 1; omega), by simpa using hF'⟩, fun _ => by rw [← bkI_sl (m := 0) (c := 0) (A := A0)]; exact bkI_hat hat'⟩
        | 3, _ =>
          injection ho with ho
          subst ho
          clear hf hd
          have hz1 := hb1.size
          simp only [fillA, List.take, List.drop, put_none, Act.put, List.setIfInBounds_toArray, List.set_cons_zero, List.set_cons_succ, Nat.reduceAdd]
          go_wp2_with (fail)
          exact ⟨rfl, rfl, none, .inl rfl, World.grownBy.refl _ _, (by first | rfl | (simp [FABi]; done) | (simp [FABi, *]; done) | (simp [FABi, gotV]; done) | (simp [FABi, gotV, *]; done)), fun h => absurd h (by decide)⟩
        | 4, _ =>
          injection ho with ho
          subst ho
          clear hf hd
          have hz1 := hb1.size
          simp only [fillA, List.take, List.drop, put_none, Act.put, List.setIfInBounds_toArray, List.set_cons_zero, List.set_cons_succ, Nat.reduceAdd]
          have hK := HKEEP.out w1 hb1
          obtain ⟨k0, k1, k2, k3, k4⟩ := hK
          go_wp2_with (fail)
          exact ⟨rfl, rfl, none, .inl rfl, World.grownBy.refl _ _, (by first | rfl | (simp [FABi]; done) | (simp [FABi, *]; done) | (simp [FABi, gotV]; done) | (simp [FABi, gotV, *]; done)), fun h => absurd h (by decide)⟩
        | 5, _ =>
          injection ho with ho
          subst ho
          have e4 : vals 4 = .agg #[.int .i64 z1, .int .i64 z2, .int .i64 z3, .int .i64 z4, .int .i64 z5] := hf 4 (by decide) (by kernel_rfl)
          clear hf hd
          have hz1 := hb1.size
          simp only [fillA, List.take, List.drop, put_none, Act.put, List.setIfInBounds_toArray, List.set_cons_zero, List.set_cons_succ, Nat.reduceAdd, e4]
          go_wp2_with (fail)
          exact ⟨rfl, rfl, none, .inl rfl, World.grownBy_alloc _ _ _, ⟨_, rfl, hz1, heap_alloc_new _ _⟩, fun _ => .inr (.inr ⟨_, rfl, Nat.le_refl _⟩)⟩
        | 6, _ =>
          injection ho with ho
          subst ho
          obtain ⟨A2, c2, e2, hF2⟩ := hf 2 (by decide) (by kernel_rfl)
          have e3 : vals 3 = .int .i64 ((xs.length : Nat) : Int) := hf 3 (by decide) (by kernel_rfl)
          obtain ⟨g5, e5, hB5, hh5⟩ := hf 5 (by decide) (by kernel_rfl)
          have hd2_5 := hd 2 5 (by decide) (by decide) (by decide) (by kernel_rfl) (by kernel_rfl) (by decide) (by decide)
          simp only [e2, e5, bkI_sl, bkI_ag] at hd2_5
          clear hf hd
          have hz1 := hb1.size
          simp only [fillA, List.take, List.drop, put_none, Act.put, List.setIfInBounds_toArray, List.set_cons_zero, List.set_cons_succ, Nat.reduceAdd, e2, e3, e5]
          go_wp2_with (go_at_call 67; refine (c_Insert A2 c2 xs xs.length WA.heap.size (z1, z2, z3, z4, z5) g5 1 w1 hF2 (by omega) hh5 (fun a ha => ?_) hz1 (by omega)).mono ?_)
          · subst ha
            rcases hd2_5 with h | h
            · cases h
            · intro e
              exact h (by rw [← e]; rfl)
          rintro e w5 ⟨A5, cp5, rfl, hF5, hg5, hat5⟩
          go_wp2_with (fail)
          exact RQO_of (.slice A5 (xs.length + 1) cp5) rfl (by first | rfl | (simp [gotV]; done) | (simp [gotV, *]; done)) ⟨blkO A2, .inr ⟨2, by decide, by decide, by kernel_rfl, by rw [e2, bkI_sl]⟩, hg5, ⟨A5, cp5, rfl, by rw [HINS.out]; exact hF5⟩, fun _ => by rw [← bkI_sl (m := 0) (c := 0) (A := A2)]; exact bkI_hat hat5⟩
        | m + 7, h => exact absurd h (by omega)
      · intro vals W5 hb5 hf hd
        have e1 : vals 1 = .slice (none) xs.length cap := hf 1 (by decide) (by decide)
        have e3 : vals 3 = .int .i64 ((xs.length : Nat) : Int) := hf 3 (by decide) (by decide)
        have e4 : vals 4 = .agg #[.int .i64 z1, .int .i64 z2, .int .i64 z3, .int .i64 z4, .int .i64 z5] := hf 4 (by decide) (by decide)
        obtain ⟨g5, e5, hB5, hh5⟩ := hf 5 (by decide) (by decide)
        obtain ⟨A6, c6, e6, hF6⟩ := hf 6 (by decide) (by decide)
        have hd5_6 := hd 5 6 (by decide) (by decide) (by decide) (by decide) (by decide) (by decide) (by decide)
        simp only [e5, e6, bkI_sl, bkI_ag] at hd5_6
        clear hf hd
        simp only [fillA, List.take, List.drop, put_none, Act.put, List.setIfInBounds_toArray, List.set_cons_zero, List.set_cons_succ, Nat.reduceAdd, e1, e3, e4, e5, e6]
        go_wp2_with (fail)
        have hbw5 : Below w.heap.size w W5 := Below.trans HBA.out (Below.mono hb5 (by have := HBA.out.size; omega))
        have hFz : FreshA cBer 5 48 w.heap.size W5 A6 c6 (insI xs (z1, z2, z3, z4, z5)) := hF6.mono (by have := HBA.out.size; omega)
        have HF6 := hid hFz
        have HBW := hid hbw5
        clear hF6 hFz hb5 hbw5 HKEEP
        have hval := c_impl_IsBerthing q A6 (insI xs (z1, z2, z3, z4, z5)) c6 W5 HF6.out.rds (by rw [HINL.out]; omega) HF6.out.capLe (by have := HF6.out.capMax; unfold maxLen at this; omega)
        rw [HINL.out] at hval
        refine hval.mono ?_
        rintro e W7 ⟨rfl, hb7⟩
        have hc7 := cellOf hb7; have hf7 := frozOf hb7; have hz7 := sizeOf hb7; (try simp at hz7)
        cases hg2 : berV q (insI xs (z1, z2, z3, z4, z5))
        · have hV2 : addV q xs (z1, z2, z3, z4, z5) = ([], false) := by simp [addV, hg2]
          have HV2 := hid hV2
          clear hV2
          simp only [hg2]
          go_wp2_with (fail)
          go_ret2
          simp only [HV2.out]
          exact ⟨none, 0, rfl, .inl ⟨rfl, rfl, rfl⟩, Below.trans HBW.out (Below.mono hb7 (by have := HBW.out.size; omega))⟩
        have hV2 : addV q xs (z1, z2, z3, z4, z5) = (insI xs (z1, z2, z3, z4, z5), true) := by simp only [addV, hg, hg2, and_self, if_true]
        have HV2 := hid hV2
        clear hV2
        simp only [hg2]
        go_wp2_with (fail)
        go_ret2
        simp only [HV2.out, HINL.out]
        exact ⟨_, _, rfl, HF6.out.below hb7, Below.trans HBW.out (Below.mono hb7 (by have := HBW.out.size; omega))⟩

  · cases hg : berV q xs
    · have hV : addV q xs (z1, z2, z3, z4, z5) = ([], false) := by simp [addV, hg]
      rw [hV]
      simp only
      clear hV
      go_enter Try.func38, Try.ntmps38
      go_wp2_with (fail)
      refine (c_impl_IsBerthing q (some ⟨bx, ox, sp⟩) xs cap _ (by first | exact hx | exact Rds.below hx (by (repeat' (first | exact Below.refl _ _ | assumption | refine Below.setCell ?_ ?_ _ | refine Below.drew ?_ | refine Below.alloc ?_ ?_ _ | refine Below.trans ?_ (Below.mono (by assumption) ?_) | (simp; done) | (simp; omega) | omega)))) hn hcap hmax).mono ?_
      rintro e W1 ⟨rfl, hb1⟩
      have hc1 := cellOf hb1; have hf1 := frozOf hb1; have hz1 := sizeOf hb1; (try simp at hz1)
      simp only [hg]
      go_wp2_with (fail)
      go_ret2
      exact ⟨none, 0, rfl, .inl ⟨rfl, rfl, rfl⟩, by (repeat' (first | exact Below.refl _ _ | assumption | refine Below.setCell ?_ ?_ _ | refine Below.drew ?_ | refine Below.alloc ?_ ?_ _ | refine Below.trans ?_ (Below.mono (by assumption) ?_) | (simp; done) | (simp; omega) | omega))⟩
    have hlen : xs.length ≤ 10 := berV_len hg
    go_enter Try.func38, Try.ntmps38
    go_wp2_with (fail)
    refine (c_impl_IsBerthing q (some ⟨bx, ox, sp⟩) xs cap _ (by first | exact hx | exact Rds.below hx (by (repeat' (first | exact Below.refl _ _ | assumption | refine Below.setCell ?_ ?_ _ | refine Below.drew ?_ | refine Below.alloc ?_ ?_ _ | refine Below.trans ?_ (Below.mono (by assumption) ?_) | (simp; done) | (simp; omega) | omega)))) hn hcap hmax).mono ?_
    rintro e W1 ⟨rfl, hb1⟩
    have hc1 := cellOf hb1; have hf1 := frozOf hb1; have hz1 := sizeOf hb1; (try simp at hz1)
    simp only [hg]
    go_wp2_with (fail)
    have m0 : W1.cell? ⟨w.heap.size, 0, none⟩ = some (.int .i64 z1) := by first | (simp [go_sem, ↓IntWalk.iteOmega, *]; done) | (simp [go_sem, ↓IntWalk.iteOmega, *]; intros; omega)
    have m1 : W1.cell? ⟨w.heap.size, 1, none⟩ = some (.int .i64 z2) := by first | (simp [go_sem, ↓IntWalk.iteOmega, *]; done) | (simp [go_sem, ↓IntWalk.iteOmega, *]; intros; omega)
    have m2 : W1.cell? ⟨w.heap.size, 2, none⟩ = some (.int .i64 z3) := by first | (simp [go_sem, ↓IntWalk.iteOmega, *]; done) | (simp [go_sem, ↓IntWalk.iteOmega, *]; intros; omega)
    have m3 : W1.cell? ⟨w.heap.size, 3, none⟩ = some (.int .i64 z4) := by first | (simp [go_sem, ↓IntWalk.iteOmega, *]; done) | (simp [go_sem, ↓IntWalk.iteOmega, *]; intros; omega)
    have m4 : W1.cell? ⟨w.heap.size, 4, none⟩ = some (.int .i64 z5) := by first | (simp [go_sem, ↓IntWalk.iteOmega, *]; done) | (simp [go_sem, ↓IntWalk.iteOmega, *]; intros; omega)
    have hbW : Below w.heap.size w W1 := by (repeat' (first | exact Below.refl _ _ | assumption | refine Below.setCell ?_ ?_ _ | refine Below.drew ?_ | refine Below.alloc ?_ ?_ _ | refine Below.trans ?_ (Below.mono (by assumption) ?_) | (simp; done) | (simp; omega) | omega))
    clear hc1 hf1 hb1
    go_loopw [8] (fun iv wr => ∃ k : Nat, k ≤ xs.length ∧ iv = .int .i64 k ∧ (∀ q (hq : q < xs.length), q < k → xs[q].1 < z1) ∧ Below W1.heap.size W1 wr) (fun iv _ => xs.length - (intOf iv).toNat)
    case atStart => exact ⟨0, Nat.zero_le _, rfl, fun q hq hk => absurd hk (Nat.not_lt_zero q), Below.refl _ _⟩
    case round =>
      obtain ⟨k, hk, rfl, hl, hbr⟩ := hrel
      have HL := hid hl
      clear hl
      have hzr := hbr.size
      have n0 := (hbr.cell (p := ⟨w.heap.size, 0, none⟩) (by show w.heap.size < _; omega)).trans m0
      have n1 := (hbr.cell (p := ⟨w.heap.size, 1, none⟩) (by show w.heap.size < _; omega)).trans m1
      have n2 := (hbr.cell (p := ⟨w.heap.size, 2, none⟩) (by show w.heap.size < _; omega)).trans m2
      have n3 := (hbr.cell (p := ⟨w.heap.size, 3, none⟩) (by show w.heap.size < _; omega)).trans m3
      have n4 := (hbr.cell (p := ⟨w.heap.size, 4, none⟩) (by show w.heap.size < _; omega)).trans m4
      have hbw : Below w.heap.size w wr := Below.trans hbW (Below.mono hbr (by omega))
      have hbw' := hid hbw
      clear m0 m1 m2 m3 m4
      by_cases hgo : ∃ h : k < xs.length, xs[k].1 < z1
      · obtain ⟨hlt, hlf⟩ := hgo
        obtain ⟨b', o', hA, hbx, hcx⟩ := hx k xs[k] (List.getElem?_eq_getElem hlt)
        cases hA
        have hx0 := (hbw.cell (p := ⟨bx, _, none⟩) hbx).trans (hcx 0 _ rfl)
        clear hcx
        simp only [Nat.add_zero] at hx0
        have HLF := hid hlf
        generalize xs[k].1 = p at hx0 hlf
        go_wp2_with (fail)
        go_region_held3 (fun w' => w'.cell? ⟨w.heap.size, 0, none⟩ = some (.int .i64 z1) ∧ w'.cell? ⟨bx, ox + k * 5, none⟩ = some (.int .i64 p)) (first | assumption | exact ⟨n0, hx0⟩) (fail)
        go_wp2_with (fail)
        go_roundw
        case rel =>
          refine ⟨k + 1, by omega, by go_num, ?_, by (repeat' (first | exact Below.refl _ _ | assumption | refine Below.setCell ?_ ?_ _ | refine Below.drew ?_ | refine Below.alloc ?_ ?_ _ | refine Below.trans ?_ (Below.mono (by assumption) ?_) | (simp; done) | (simp; omega) | omega))⟩
          intro q hq hk1
          by_cases hqk : q < k
          · exact HL.out q hq hqk
          · have : q = k := by omega
            subst this
            exact HLF.out
        case measure => simp [intOf]; omega
      have hpk : posI z1 xs = k := posI_at hk HL.out (fun h h2 => hgo ⟨h, h2⟩)
      have hins : insI xs (z1, z2, z3, z4, z5) = xs.take k ++ (z1, z2, z3, z4, z5) :: xs.drop k := by simp only [insI, hpk]
      have HINS := hid hins
      have HINL := hid (insI_len xs (z1, z2, z3, z4, z5))
      clear hins hpk HL
      have hgoK := hid hgo
      clear hgo
      by_cases hlt : k < xs.length
      · have hnf : ¬ xs[k].1 < z1 := fun h => hgoK.out ⟨hlt, h⟩
        obtain ⟨b', o', hA, hbx, hcx⟩ := hx k xs[k] (List.getElem?_eq_getElem hlt)
        cases hA
        have hx0 := (hbw.cell (p := ⟨bx, _, none⟩) hbx).trans (hcx 0 _ rfl)
        clear hcx
        simp only [Nat.add_zero] at hx0
        generalize xs[k].1 = p at hx0 hnf
        go_wp2_with (fail)
        go_region_held3 (fun w' => w'.cell? ⟨w.heap.size, 0, none⟩ = some (.int .i64 z1) ∧ w'.cell? ⟨bx, ox + k * 5, none⟩ = some (.int .i64 p)) (first | assumption | exact ⟨n0, hx0⟩) (fail)
        go_wp2_with (fail)
        clear hx0 hnf hbx
        refine wp_named ?_
        intro WA hWA
        have p0 : WA.cell? ⟨w.heap.size, 0, none⟩ = some (.int .i64 z1) := by rw [hWA]; exact n0
        have p1 : WA.cell? ⟨w.heap.size, 1, none⟩ = some (.int .i64 z2) := by rw [hWA]; exact n1
        have p2 : WA.cell? ⟨w.heap.size, 2, none⟩ = some (.int .i64 z3) := by rw [hWA]; exact n2
        have p3 : WA.cell? ⟨w.heap.size, 3, none⟩ = some (.int .i64 z4) := by rw [hWA]; exact n3
        have p4 : WA.cell? ⟨w.heap.size, 4, none⟩ = some (.int .i64 z5) := by rw [hWA]; exact n4
        have hzA : wr.heap.size ≤ WA.heap.size := by rw [hWA]; exact Nat.le_refl _
        have hbA : Below w.heap.size w WA := by rw [hWA]; first | exact Below.drew hbw'.out | exact below_dn hbw'.out | exact hbw'.out
        have HBA := hid hbA
        have HXA := hid (Rds.below hx hbA)
        clear hWA n0 n1 n2 n3 n4 hbr hbw hbw' hbW hbA
        have HKEEP : Hid (∀ w', Below WA.heap.size WA w' → w'.cell? ⟨w.heap.size, 0, none⟩ = some (.int .i64 z1) ∧ w'.cell? ⟨w.heap.size, 1, none⟩ = some (.int .i64 z2) ∧ w'.cell? ⟨w.heap.size, 2, none⟩ = some (.int .i64 z3) ∧ w'.cell? ⟨w.heap.size, 3, none⟩ = some (.int .i64 z4) ∧ w'.cell? ⟨w.heap.size, 4, none⟩ = some (.int .i64 z5)) := fun w' hb => ⟨(hb.cell (p := ⟨w.heap.size, 0, none⟩) (by show w.heap.size < _; omega)).trans p0, (hb.cell (p := ⟨w.heap.size, 1, none⟩) (by show w.heap.size < _; omega)).trans p1, (hb.cell (p := ⟨w.heap.size, 2, none⟩) (by show w.heap.size < _; omega)).trans p2, (hb.cell (p := ⟨w.heap.size, 3, none⟩) (by show w.heap.size < _; omega)).trans p3, (hb.cell (p := ⟨w.heap.size, 4, none⟩) (by show w.heap.size < _; omega)).trans p4⟩
        clear p0 p1 p2 p3 p4
        refine wp_region_o (n := 7) bkI [0, 2, 5, 6] [0, 2] (FABi q (some ⟨bx, ox, none⟩) xs cap k z1 z2 z3 z4 z5 WA.heap.size) rfl (by kernel_rfl) (by kernel_rfl) (by intro j hj; simp at hj ⊢; omega) (fun _ _ d _ _ h => by cases d <;> exact h) ?_ ?_ ?_ ?_
        · intro iq v w1 w2 row hF hg hb hl
          match iq with
          | 0 => exact SlO.keep hF hg (hb (by decide))
          | 1 => exact hF
          | 2 => exact SlO.keep hF hg (hb (by decide))
          | 3 => exact hF
          | 4 => exact hF
          | 5 => exact BxO.keep hF hg (hb (by decide))
          | 6 => exact SlO.keep hF hg (hb (by decide))
          | m + 7 => exact (show True from trivial)
        · intro iq hi v w1 hF
          have hcase : iq = 0 ∨ iq = 2 ∨ iq = 5 ∨ iq = 6 := by simpa using hi
          rcases hcase with rfl | rfl | rfl | rfl
          · exact SlO.at_ hF
          · exact SlO.at_ hF
          · exact BxO.at_ hF
          · exact SlO.at_ hF
        · intro iq o hi ho vals w1 hb1 hf hd
          match iq, hi with
          | 0, _ =>
            injection ho with ho
            subst ho
            clear hf hd
            have hz1 := hb1.size
            simp only [fillA, List.take, List.drop, put_none, Act.put, List.setIfInBounds_toArray, List.set_cons_zero, List.set_cons_succ, Nat.reduceAdd]
            go_wp2_with (fail)
            exact ⟨rfl, rfl, none, .inl rfl, World.grownBy_alloc _ _ _, ⟨_, _, rfl, FreshA.newh rfl hz1⟩, fun _ => .inr (.inr ⟨_, rfl, Nat.le_refl _⟩)⟩
          | 1, _ =>
            injection ho with ho
            subst ho
            clear hf hd
            have hz1 := hb1.size
            simp only [fillA, List.take, List.drop, put_none, Act.put, List.setIfInBounds_toArray, List.set_cons_zero, List.set_cons_succ, Nat.reduceAdd]
            go_wp2_with (fail)
            exact ⟨rfl, rfl, none, .inl rfl, World.grownBy.refl _ _, (by first | rfl | (simp [FABi]; done) | (simp [FABi, *]; done) | (simp [FABi, gotV]; done) | (simp [FABi, gotV, *]; done)), fun h => absurd h (by decide)⟩
          | 2, _ =>
            injection ho with ho
            subst ho
            obtain ⟨A0, c0, e0, hF0⟩ := hf 0 (by decide) (by kernel_rfl)
            have e1 : vals 1 = .slice (some ⟨bx, ox, none⟩) xs.length cap := hf 1 (by decide) (by kernel_rfl)
            clear hf hd
            have hz1 := hb1.size
            simp only [fillA, List.take, List.drop, put_none, Act.put, List.setIfInBounds_toArray, List.set_cons_zero, List.set_cons_succ, Nat.reduceAdd, e0, e1]
            refine wpList_pushesR (xs := ([] : List (Int × Int × Int × Int × Int))) rfl (.tmp 30) (.tmp 31) 25 rfl 48 i0 _ 40 Try.underlying25 hI0 hI1 hI2 hI3 rfl (by decide) (fun _ => rfl) one_Ber 0 rfl rfl hF0 xs xs.length rfl (some ⟨bx, ox, none⟩) _ rfl (Rds.below HXA.out hb1) (by unfold maxLen; omega) (by omega) hz1 ?_
            intro A' cp' w' hF' hg' hat'
            exact RQO_of (.slice A' (0 + xs.length) cp') rfl (by first | rfl | (simp [gotV]; done) | (simp [gotV, *]; done)) ⟨blkO A0, .inr ⟨0, by decide, by decide, by kernel_rfl, by rw [e0, bkI_sl]⟩, hg', ⟨A', cp', by first | rfl | (simp; done) | (congr 1; omega), by simpa using hF'⟩, fun _ => by rw [← bkI_sl (m := 0) (c := 0) (A := A0)]; exact bkI_hat hat'⟩
          | 3, _ =>
            injection ho with ho
            subst ho
            clear hf hd
            have hz1 := hb1.size
            simp only [fillA, List.take, List.drop, put_none, Act.put, List.setIfInBounds_toArray, List.set_cons_zero, List.set_cons_succ, Nat.reduceAdd]
            go_wp2_with (fail)
            exact ⟨rfl, rfl, none, .inl rfl, World.grownBy.refl _ _, (by first | rfl | (simp [FABi]; done) | (simp [FABi, *]; done) | (simp [FABi, gotV]; done) | (simp [FABi, gotV, *]; done)), fun h => absurd h (by decide)⟩
          | 4, _ =>
            injection ho with ho
            subst ho
            clear hf hd
            have hz1 := hb1.size
            simp only [fillA, List.take, List.drop, put_none, Act.put, List.setIfInBounds_toArray, List.set_cons_zero, List.set_cons_succ, Nat.reduceAdd]
            have hK := HKEEP.out w1 hb1
            obtain ⟨k0, k1, k2, k3, k4⟩ := hK
            go_wp2_with (fail)
            exact ⟨rfl, rfl, none, .inl rfl, World.grownBy.refl _ _, (by first | rfl | (simp [FABi]; done) | (simp [FABi, *]; done) | (simp [FABi, gotV]; done) | (simp [FABi, gotV, *]; done)), fun h => absurd h (by decide)⟩
          | 5, _ =>
            injection ho with ho
            subst ho
            have e4 : vals 4 = .agg #[.int .i64 z1, .int .i64 z2, .int .i64 z3, .int .i64 z4, .int .i64 z5] := hf 4 (by decide) (by kernel_rfl)
            clear hf hd
            have hz1 := hb1.size
            simp only [fillA, List.take, List.drop, put_none, Act.put, List.setIfInBounds_toArray, List.set_cons_zero, List.set_cons_succ, Nat.reduceAdd, e4]
            go_wp2_with (fail)
            exact ⟨rfl, rfl, none, .inl rfl, World.grownBy_alloc _ _ _, ⟨_, rfl, hz1, heap_alloc_new _ _⟩, fun _ => .inr (.inr ⟨_, rfl, Nat.le_refl _⟩)⟩
          | 6, _ =>
            injection ho with ho
            subst ho
            obtain ⟨A2, c2, e2, hF2⟩ := hf 2 (by decide) (by kernel_rfl)
            have e3 : vals 3 = .int .i64 ((k : Nat) : Int) := hf 3 (by decide) (by kernel_rfl)
            obtain ⟨g5, e5, hB5, hh5⟩ := hf 5 (by decide) (by kernel_rfl)
            have hd2_5 := hd 2 5 (by decide) (by decide) (by decide) (by kernel_rfl) (by kernel_rfl) (by decide) (by decide)
            simp only [e2, e5, bkI_sl, bkI_ag] at hd2_5
            clear hf hd
            have hz1 := hb1.size
            simp only [fillA, List.take, List.drop, put_none, Act.put, List.setIfInBounds_toArray, List.set_cons_zero, List.set_cons_succ, Nat.reduceAdd, e2, e3, e5]
            go_wp2_with (go_at_call 67; refine (c_Insert A2 c2 xs k WA.heap.size (z1, z2, z3, z4, z5) g5 1 w1 hF2 (by omega) hh5 (fun a ha => ?_) hz1 (by omega)).mono ?_)
            · subst ha
              rcases hd2_5 with h | h
              · cases h
              · intro e
                exact h (by rw [← e]; rfl)
            rintro e w5 ⟨A5, cp5, rfl, hF5, hg5, hat5⟩
            go_wp2_with (fail)
            exact RQO_of (.slice A5 (xs.length + 1) cp5) rfl (by first | rfl | (simp [gotV]; done) | (simp [gotV, *]; done)) ⟨blkO A2, .inr ⟨2, by decide, by decide, by kernel_rfl, by rw [e2, bkI_sl]⟩, hg5, ⟨A5, cp5, rfl, by rw [HINS.out]; exact hF5⟩, fun _ => by rw [← bkI_sl (m := 0) (c := 0) (A := A2)]; exact bkI_hat hat5⟩
          | m + 7, h => exact absurd h (by omega)
        · intro vals W5 hb5 hf hd
          have e1 : vals 1 = .slice (some ⟨bx, ox, none⟩) xs.length cap := hf 1 (by decide) (by decide)
          have e3 : vals 3 = .int .i64 ((k : Nat) : Int) := hf 3 (by decide) (by decide)
          have e4 : vals 4 = .agg #[.int .i64 z1, .int .i64 z2, .int .i64 z3, .int .i64 z4, .int .i64 z5] := hf 4 (by decide) (by decide)
          obtain ⟨g5, e5, hB5, hh5⟩ := hf 5 (by decide) (by decide)
          obtain ⟨A6, c6, e6, hF6⟩ := hf 6 (by decide) (by decide)
          have hd5_6 := hd 5 6 (by decide) (by decide) (by decide) (by decide) (by decide) (by decide) (by decide)
          simp only [e5, e6, bkI_sl, bkI_ag] at hd5_6
          clear hf hd
          simp only [fillA, List.take, List.drop, put_none, Act.put, List.setIfInBounds_toArray, List.set_cons_zero, List.set_cons_succ, Nat.reduceAdd, e1, e3, e4, e5, e6]
          go_wp2_with (fail)
          have hbw5 : Below w.heap.size w W5 := Below.trans HBA.out (Below.mono hb5 (by have := HBA.out.size; omega))
          have hFz : FreshA cBer 5 48 w.heap.size W5 A6 c6 (insI xs (z1, z2, z3, z4, z5)) := hF6.mono (by have := HBA.out.size; omega)
          have HF6 := hid hFz
          have HBW := hid hbw5
          clear hF6 hFz hb5 hbw5 HKEEP
          have hval := c_impl_IsBerthing q A6 (insI xs (z1, z2, z3, z4, z5)) c6 W5 HF6.out.rds (by rw [HINL.out]; omega) HF6.out.capLe (by have := HF6.out.capMax; unfold maxLen at this; omega)
          rw [HINL.out] at hval
          refine hval.mono ?_
          rintro e W7 ⟨rfl, hb7⟩
          have hc7 := cellOf hb7; have hf7 := frozOf hb7; have hz7 := sizeOf hb7; (try simp at hz7)
          cases hg2 : berV q (insI xs (z1, z2, z3, z4, z5))
          · have hV2 : addV q xs (z1, z2, z3, z4, z5) = ([], false) := by simp [addV, hg2]
            have HV2 := hid hV2
            clear hV2
            simp only [hg2]
            go_wp2_with (fail)
            go_ret2
            simp only [HV2.out]
            exact ⟨none, 0, rfl, .inl ⟨rfl, rfl, rfl⟩, Below.trans HBW.out (Below.mono hb7 (by have := HBW.out.size; omega))⟩
          have hV2 : addV q xs (z1, z2, z3, z4, z5) = (insI xs (z1, z2, z3, z4, z5), true) := by simp only [addV, hg, hg2, and_self, if_true]
          have HV2 := hid hV2
          clear hV2
          simp only [hg2]
          go_wp2_with (fail)
          go_ret2
          simp only [HV2.out, HINL.out]
          exact ⟨_, _, rfl, HF6.out.below hb7, Below.trans HBW.out (Below.mono hb7 (by have := HBW.out.size; omega))⟩

      obtain rfl : k = xs.length := by omega
      go_wp2_with (fail)
      go_quiet (fail)
      go_wp2_with (fail)
      refine wp_named ?_
      intro WA hWA
      have p0 : WA.cell? ⟨w.heap.size, 0, none⟩ = some (.int .i64 z1) := by rw [hWA]; exact n0
      have p1 : WA.cell? ⟨w.heap.size, 1, none⟩ = some (.int .i64 z2) := by rw [hWA]; exact n1
      have p2 : WA.cell? ⟨w.heap.size, 2, none⟩ = some (.int .i64 z3) := by rw [hWA]; exact n2
      have p3 : WA.cell? ⟨w.heap.size, 3, none⟩ = some (.int .i64 z4) := by rw [hWA]; exact n3
      have p4 : WA.cell? ⟨w.heap.size, 4, none⟩ = some (.int .i64 z5) := by rw [hWA]; exact n4
      have hzA : wr.heap.size ≤ WA.heap.size := by rw [hWA]; exact Nat.le_refl _
      have hbA : Below w.heap.size w WA := by rw [hWA]; first | exact Below.drew hbw'.out | exact below_dn hbw'.out | exact hbw'.out
      have HBA := hid hbA
      have HXA := hid (Rds.below hx hbA)
      clear hWA n0 n1 n2 n3 n4 hbr hbw hbw' hbW hbA
      have HKEEP : Hid (∀ w', Below WA.heap.size WA w' → w'.cell? ⟨w.heap.size, 0, none⟩ = some (.int .i64 z1) ∧ w'.cell? ⟨w.heap.size, 1, none⟩ = some (.int .i64 z2) ∧ w'.cell? ⟨w.heap.size, 2, none⟩ = some (.int .i64 z3) ∧ w'.cell? ⟨w.heap.size, 3, none⟩ = some (.int .i64 z4) ∧ w'.cell? ⟨w.heap.size, 4, none⟩ = some (.int .i64 z5)) := fun w' hb => ⟨(hb.cell (p := ⟨w.heap.size, 0, none⟩) (by show w.heap.size < _; omega)).trans p0, (hb.cell (p := ⟨w.heap.size, 1, none⟩) (by show w.heap.size < _; omega)).trans p1, (hb.cell (p := ⟨w.heap.size, 2, none⟩) (by show w.heap.size < _; omega)).trans p2, (hb.cell (p := ⟨w.heap.size, 3, none⟩) (by show w.heap.size < _; omega)).trans p3, (hb.cell (p := ⟨w.heap.size, 4, none⟩) (by show w.heap.size < _; omega)).trans p4⟩
      clear p0 p1 p2 p3 p4
      refine wp_region_o (n := 7) bkI [0, 2, 5, 6] [0, 2] (FABi q (some ⟨bx, ox, sp⟩) xs cap xs.length z1 z2 z3 z4 z5 WA.heap.size) rfl (by kernel_rfl) (by kernel_rfl) (by intro j hj; simp at hj ⊢; omega) (fun _ _ d _ _ h => by cases d <;> exact h) ?_ ?_ ?_ ?_
      · intro iq v w1 w2 row hF hg hb hl
        match iq with
        | 0 => exact SlO.keep hF hg (hb (by decide))
        | 1 => exact hF
        | 2 => exact SlO.keep hF hg (hb (by decide))
        | 3 => exact hF
        | 4 => exact hF
        | 5 => exact BxO.keep hF hg (hb (by decide))
        | 6 => exact SlO.keep hF hg (hb (by decide))
        | m + 7 => exact (show True from trivial)
      · intro iq hi v w1 hF
        have hcase : iq = 0 ∨ iq = 2 ∨ iq = 5 ∨ iq = 6 := by simpa using hi
        rcases hcase with rfl | rfl | rfl | rfl
        · exact SlO.at_ hF
        · exact SlO.at_ hF
        · exact BxO.at_ hF
        · exact SlO.at_ hF
      · intro iq o hi ho vals w1 hb1 hf hd
        match iq, hi with
        | 0, _ =>
          injection ho with ho
          subst ho
          clear hf hd
          have hz1 := hb1.size
          simp only [fillA, List.take, List.drop, put_none, Act.put, List.setIfInBounds_toArray, List.set_cons_zero, List.set_cons_succ, Nat.reduceAdd]
          go_wp2_with (fail)
          exact ⟨rfl, rfl, none, .inl rfl, World.grownBy_alloc _ _ _, ⟨_, _, rfl, FreshA.newh rfl hz1⟩, fun _ => .inr (.inr ⟨_, rfl, Nat.le_refl _⟩)⟩
        | 1, _ =>
          injection ho with ho
          subst ho
          clear hf hd
          have hz1 := hb1.size
          simp only [fillA, List.take, List.drop, put_none, Act.put, List.setIfInBounds_toArray, List.set_cons_zero, List.set_cons_succ, Nat.reduceAdd]
          go_wp2_with (fail)
          exact ⟨rfl, rfl, none, .inl rfl, World.grownBy.refl _ _, (by first | rfl | (simp [FABi]; done) | (simp [FABi, *]; done) | (simp [FABi, gotV]; done) | (simp [FABi, gotV, *]; done)), fun h => absurd h (by decide)⟩
        | 2, _ =>
          injection ho with ho
          subst ho
          obtain ⟨A0, c0, e0, hF0⟩ := hf 0 (by decide) (by kernel_rfl)
          have e1 : vals 1 = .slice (some ⟨bx, ox, sp⟩) xs.length cap := hf 1 (by decide) (by kernel_rfl)
          clear hf hd
          have hz1 := hb1.size
          simp only [fillA, List.take, List.drop, put_none, Act.put, List.setIfInBounds_toArray, List.set_cons_zero, List.set_cons_succ, Nat.reduceAdd, e0, e1]
          refine wpList_pushesR (xs := ([] : List (Int × Int × Int × Int × Int))) rfl (.tmp 30) (.tmp 31) 25 rfl 48 i0 _ 40 Try.underlying25 hI0 hI1 hI2 hI3 rfl (by decide) (fun _ => rfl) one_Ber 0 rfl rfl hF0 xs xs.length rfl (some ⟨bx, ox, sp⟩) _ rfl (Rds.below HXA.out hb1) (by unfold maxLen; omega) (by omega) hz1 ?_
          intro A' cp' w' hF' hg' hat'
          exact RQO_of (.slice A' (0 + xs.length) cp') rfl (by first | rfl | (simp [gotV]; done) | (simp [gotV, *]; done)) ⟨blkO A0, .inr ⟨0, by decide, by decide, by kernel_rfl, by rw [e0, bkI_sl]⟩, hg', ⟨A', cp', by first | rfl | (simp; done) | (congr 1; omega), by simpa using hF'⟩, fun _ => by rw [← bkI_sl (m := 0) (c := 0) (A := A0)]; exact bkI_hat hat'⟩
        | 3, _ =>
          injection ho with ho
          subst ho
          clear hf hd
          have hz1 := hb1.size
          simp only [fillA, List.take, List.drop, put_none, Act.put, List.setIfInBounds_toArray, List.set_cons_zero, List.set_cons_succ, Nat.reduceAdd]
          go_wp2_with (fail)
          exact ⟨rfl, rfl, none, .inl rfl, World.grownBy.refl _ _, (by first | rfl | (simp [FABi]; done) | (simp [FABi, *]; done) | (simp [FABi, gotV]; done) | (simp [FABi, gotV, *]; done)), fun h => absurd h (by decide)⟩
        | 4, _ =>
          injection ho with ho
          subst ho
          clear hf hd
          have hz1 := hb1.size
          simp only [fillA, List.take, List.drop, put_none, Act.put, List.setIfInBounds_toArray, List.set_cons_zero, List.set_cons_succ, Nat.reduceAdd]
          have hK := HKEEP.out w1 hb1
          obtain ⟨k0, k1, k2, k3, k4⟩ := hK
          go_wp2_with (fail)
          exact ⟨rfl, rfl, none, .inl rfl, World.grownBy.refl _ _, (by first | rfl | (simp [FABi]; done) | (simp [FABi, *]; done) | (simp [FABi, gotV]; done) | (simp [FABi, gotV, *]; done)), fun h => absurd h (by decide)⟩
        | 5, _ =>
          injection ho with ho
          subst ho
          have e4 : vals 4 = .agg #[.int .i64 z1, .int .i64 z2, .int .i64 z3, .int .i64 z4, .int .i64 z5] := hf 4 (by decide) (by kernel_rfl)
          clear hf hd
          have hz1 := hb1.size
          simp only [fillA, List.take, List.drop, put_none, Act.put, List.setIfInBounds_toArray, List.set_cons_zero, List.set_cons_succ, Nat.reduceAdd, e4]
          go_wp2_with (fail)
          exact ⟨rfl, rfl, none, .inl rfl, World.grownBy_alloc _ _ _, ⟨_, rfl, hz1, heap_alloc_new _ _⟩, fun _ => .inr (.inr ⟨_, rfl, Nat.le_refl _⟩)⟩
        | 6, _ =>
          injection ho with ho
          subst ho
          obtain ⟨A2, c2, e2, hF2⟩ := hf 2 (by decide) (by kernel_rfl)
          have e3 : vals 3 = .int .i64 ((xs.length : Nat) : Int) := hf 3 (by decide) (by kernel_rfl)
          obtain ⟨g5, e5, hB5, hh5⟩ := hf 5 (by decide) (by kernel_rfl)
          have hd2_5 := hd 2 5 (by decide) (by decide) (by decide) (by kernel_rfl) (by kernel_rfl) (by decide) (by decide)
          simp only [e2, e5, bkI_sl, bkI_ag] at hd2_5
          clear hf hd
          have hz1 := hb1.size
          simp only [fillA, List.take, List.drop, put_none, Act.put, List.setIfInBounds_toArray, List.set_cons_zero, List.set_cons_succ, Nat.reduceAdd, e2, e3, e5]
          go_wp2_with (go_at_call 67; refine (c_Insert A2 c2 xs xs.length WA.heap.size (z1, z2, z3, z4, z5) g5 1 w1 hF2 (by omega) hh5 (fun a ha => ?_) hz1 (by omega)).mono ?_)
          · subst ha
            rcases hd2_5 with h | h
            · cases h
            · intro e
              exact h (by rw [← e]; rfl)
          rintro e w5 ⟨A5, cp5, rfl, hF5, hg5, hat5⟩
          go_wp2_with (fail)
          exact RQO_of (.slice A5 (xs.length + 1) cp5) rfl (by first | rfl | (simp [gotV]; done) | (simp [gotV, *]; done)) ⟨blkO A2, .inr ⟨2, by decide, by decide, by kernel_rfl, by rw [e2, bkI_sl]⟩, hg5, ⟨A5, cp5, rfl, by rw [HINS.out]; exact hF5⟩, fun _ => by rw [← bkI_sl (m := 0) (c := 0) (A := A2)]; exact bkI_hat hat5⟩
        | m + 7, h => exact absurd h (by omega)
      · intro vals W5 hb5 hf hd
        have e1 : vals 1 = .slice (some ⟨bx, ox, sp⟩) xs.length cap := hf 1 (by decide) (by decide)
        have e3 : vals 3 = .int .i64 ((xs.length : Nat) : Int) := hf 3 (by decide) (by decide)
        have e4 : vals 4 = .agg #[.int .i64 z1, .int .i64 z2, .int .i64 z3, .int .i64 z4, .int .i64 z5] := hf 4 (by decide) (by decide)
        obtain ⟨g5, e5, hB5, hh5⟩ := hf 5 (by decide) (by decide)
        obtain ⟨A6, c6, e6, hF6⟩ := hf 6 (by decide) (by decide)
        have hd5_6 := hd 5 6 (by decide) (by decide) (by decide) (by decide) (by decide) (by decide) (by decide)
        simp only [e5, e6, bkI_sl, bkI_ag] at hd5_6
        clear hf hd
        simp only [fillA, List.take, List.drop, put_none, Act.put, List.setIfInBounds_toArray, List.set_cons_zero, List.set_cons_succ, Nat.reduceAdd, e1, e3, e4, e5, e6]
        go_wp2_with (fail)
        have hbw5 : Below w.heap.size w W5 := Below.trans HBA.out (Below.mono hb5 (by have := HBA.out.size; omega))
        have hFz : FreshA cBer 5 48 w.heap.size W5 A6 c6 (insI xs (z1, z2, z3, z4, z5)) := hF6.mono (by have := HBA.out.size; omega)
        have HF6 := hid hFz
        have HBW := hid hbw5
        clear hF6 hFz hb5 hbw5 HKEEP
        have hval := c_impl_IsBerthing q A6 (insI xs (z1, z2, z3, z4, z5)) c6 W5 HF6.out.rds (by rw [HINL.out]; omega) HF6.out.capLe (by have := HF6.out.capMax; unfold maxLen at this; omega)
        rw [HINL.out] at hval
        refine hval.mono ?_
        rintro e W7 ⟨rfl, hb7⟩
        have hc7 := cellOf hb7; have hf7 := frozOf hb7; have hz7 := sizeOf hb7; (try simp at hz7)
        cases hg2 : berV q (insI xs (z1, z2, z3, z4, z5))
        · have hV2 : addV q xs (z1, z2, z3, z4, z5) = ([], false) := by simp [addV, hg2]
          have HV2 := hid hV2
          clear hV2
          simp only [hg2]
          go_wp2_with (fail)
          go_ret2
          simp only [HV2.out]
          exact ⟨none, 0, rfl, .inl ⟨rfl, rfl, rfl⟩, Below.trans HBW.out (Below.mono hb7 (by have := HBW.out.size; omega))⟩
        have hV2 : addV q xs (z1, z2, z3, z4, z5) = (insI xs (z1, z2, z3, z4, z5), true) := by simp only [addV, hg, hg2, and_self, if_true]
        have HV2 := hid hV2
        clear hV2
        simp only [hg2]
        go_wp2_with (fail)
        go_ret2
        simp only [HV2.out, HINL.out]
        exact ⟨_, _, rfl, HF6.out.below hb7, Below.trans HBW.out (Below.mono hb7 (by have := HBW.out.size; omega))⟩

end Go.Proofs.Ytfipmalomhflgaa
