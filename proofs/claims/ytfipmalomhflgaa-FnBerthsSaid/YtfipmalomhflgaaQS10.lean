import Derived.Test.YtfipmalomhflgaaQS07
import Derived.Test.YtfipmalomhflgaaQS09
import Derived.Deep.RegionHeld3
import Derived.BigQuiet
import Derived.Deep.QuietTactic
import Derived.Test.YtfipmalomhflgaaQS03
namespace Go.Proofs.Ytfipmalomhflgaa
set_option linter.unusedSimpArgs false
set_option linter.unusedVariables false
open Go.RowKit

def FABs (AT : Option Addr) (q : Int) (A : Option Addr) (xs : List (Int × Int × Int × Int × Int)) (cap k : Nat) (z1 z2 z3 z4 z5 : Int) (B : Nat) (iq : Nat) (v : Value) (w1 : World) : Prop := match iq with
  | 0 => SlO cBer 5 48 B (([] : List (Int × Int × Int × Int × Int))) (0) v w1
  | 1 => v = .slice A xs.length cap
  | 2 => v = .int .i64 ((k : Nat) : Int)
  | 3 => v = .slice A k cap
  | 4 => SlO cBer 5 48 B (xs.take k) (k) v w1
  | 5 => v = .agg #[.int .i64 z1, .int .i64 z2, .int .i64 z3, .int .i64 z4, .int .i64 z5]
  | 6 => BxO B (.cells (cBer (z1, z2, z3, z4, z5)).toArray 48 (0, 0)) v w1
  | 7 => SlO cBer 5 48 B (xs.take k ++ [(z1, z2, z3, z4, z5)]) (k + 1) v w1
  | 8 => v = .slice A xs.length cap
  | 9 => v = .int .i64 ((k : Nat) : Int)
  | 10 => DrO AT xs.length k (cap - k) v w1
  | 11 => SlO cBer 5 48 B (insI xs (z1, z2, z3, z4, z5)) (xs.length + 1) v w1
  | _ => True
set_option maxRecDepth 100000 in
set_option maxHeartbeats 4000000 in
theorem c_spec_AddBerth (q : Int) (A : Option Addr) (xs : List (Int × Int × Int × Int × Int)) (cap : Nat) (z1 z2 z3 z4 z5 : Int) (w : World) (hx : Rds cBer 5 w A xs) (hn : xs.length ≤ 9223372036854775807) (hcq : xs.length ≤ cap) :
    Calls Try.prog 36 #[.int .i64 q, .slice A xs.length cap, .agg #[.int .i64 z1, .int .i64 z2, .int .i64 z3, .int .i64 z4, .int .i64 z5]] w fun e w' => ∃ A' cap', e = .returned (.tuple #[.slice A' (addV q xs (z1, z2, z3, z4, z5)).1.length cap', .bool (addV q xs (z1, z2, z3, z4, z5)).2]) ∧ FreshA cBer 5 48 w.heap.size w' A' cap' (addV q xs (z1, z2, z3, z4, z5)).1 ∧ Below w.heap.size w w' := by
  obtain ⟨i0, hI0, hI1, hI2, hI3⟩ := info_parts info_Ber
  rcases A with _ | ⟨bx, ox, sp⟩
  · cases hg : berV q xs
    · have hV : addV q xs (z1, z2, z3, z4, z5) = ([], false) := by simp [addV, hg]
      rw [hV]
      simp only
      clear hV
      go_enter Try.func36, Try.ntmps36
      go_wp2_with (fail)
      refine (c_spec_l16Good q (none) xs cap _ (by first | exact hx | exact Rds.below hx (by (repeat' (first | exact Below.refl _ _ | assumption | refine Below.setCell ?_ ?_ _ | refine Below.drew ?_ | refine Below.alloc ?_ ?_ _ | refine Below.trans ?_ (Below.mono (by assumption) ?_) | (simp; done) | (simp; omega) | omega)))) hn).mono ?_
      rintro e W1 ⟨rfl, hb1⟩
      have hc1 := cellOf hb1; have hf1 := frozOf hb1; have hz1 := sizeOf hb1; (try simp at hz1)
      simp only [hg]
      go_wp2_with (fail)
      go_ret2
      exact ⟨_, _, rfl, FreshA.new (by first | omega | (simp at *; omega)), by (repeat' (first | exact Below.refl _ _ | assumption | refine Below.setCell ?_ ?_ _ | refine Below.drew ?_ | refine Below.alloc ?_ ?_ _ | refine Below.trans ?_ (Below.mono (by assumption) ?_) | (simp; done) | (simp; omega) | omega))⟩
    have hlen : xs.length ≤ 10 := berV_len hg
    go_enter Try.func36, Try.ntmps36
    go_wp2_with (fail)
    refine (c_spec_l16Good q (none) xs cap _ (by first | exact hx | exact Rds.below hx (by (repeat' (first | exact Below.refl _ _ | assumption | refine Below.setCell ?_ ?_ _ | refine Below.drew ?_ | refine Below.alloc ?_ ?_ _ | refine Below.trans ?_ (Below.mono (by assumption) ?_) | (simp; done) | (simp; omega) | omega)))) hn).mono ?_
    rintro e W1 ⟨rfl, hb1⟩
    have hc1 := cellOf hb1; have hf1 := frozOf hb1; have hz1 := sizeOf hb1; (try simp at hz1)
    simp only [hg]
    go_wp2_with (fail)
    have m0 : W1.cell? ⟨w.heap.size, 0, none⟩ = some (.int .i64 z1) := by first | (simp [go_sem, ↓IntWalk.iteOmega, *]; done) | (simp [go_sem, ↓IntWalk.iteOmega, *]; intros; omega)
    have m1 : W1.cell? ⟨w.heap.size, 1, none⟩ = some (.int .i64 z2) := by first | (simp [go_sem, ↓IntWalk.iteOmega, *]; done) | (simp [go_sem, ↓IntWalk.iteOmega, *]; intros; omega)
    have m2 : W1.cell? ⟨w.heap.size, 2, none⟩ = some (.int .i64 z3) := by first | (simp [go_sem, ↓IntWalk.iteOmega, *]; done) | (simp [go_sem, ↓IntWalk.iteOmega, *]; intros; omega)
    have m3 : W1.cell? ⟨w.heap.size, 3, none⟩ = some (.int .i64 z4) := by first | (simp [go_sem, ↓IntWalk.iteOmega, *]; done) | (simp [go_sem, ↓IntWalk.iteOmega, *]; intros; omega)
    have m4 : W1.cell? ⟨w.heap.size, 4, none⟩ = some (.int .i64 z5) := by first | (simp [go_sem, ↓IntWalk.iteOmega, *]; done) | (simp [go_sem, ↓IntWalk.iteOmega, *]; intros; omega)
    have hbW : Below w.heap.size w W1 := by (repeat' (first | exact Below.refl _ _ | assumption | refine Below.setCell ?_ ?_ _ | refine Below.drew ?_ | refine Below.alloc ?_ ?_ _ | refine Below.trans ?_ (Below.mono (by assumption) ?_) | (simp; done) | (simp; omega) | omega))
    clear hc1 hf1 hb1
    go_loopw [8] (fun iv wr => ∃ k : Nat, k ≤ xs.length ∧ iv = .int .i64 k ∧ (∀ q (hq : q < xs.length), q < k → xs[q].1 < z1) ∧ Below W1.heap.size W1 wr) (fun iv _ => xs.length - (intOf iv).toNat)
    case atStart => exact ⟨0, Nat.zero_le _, rfl, fun q hq hk => absurd hk (Nat.not_lt_zero q), Below.refl _ _⟩
    case round =>
      obtain ⟨k, hk, rfl, hl, hbr⟩ := hrel
      have HL := hid hl
      clear hl
      have hzr := hbr.size
      have n0 := (hbr.cell (p := ⟨w.heap.size, 0, none⟩) (by show w.heap.size < _; omega)).trans m0
      have n1 := (hbr.cell (p := ⟨w.heap.size, 1, none⟩) (by show w.heap.size < _; omega)).trans m1
      have n2 := (hbr.cell (p := ⟨w.heap.size, 2, none⟩) (by show w.heap.size < _; omega)).trans m2
      have n3 := (hbr.cell (p := ⟨w.heap.size, 3, none⟩) (by show w.heap.size < _; omega)).trans m3
      have n4 := (hbr.cell (p := ⟨w.heap.size, 4, none⟩) (by show w.heap.size < _; omega)).trans m4
      have hbw : Below w.heap.size w wr := Below.trans hbW (Below.mono hbr (by omega))
      have hbw' := hid hbw
      clear m0 m1 m2 m3 m4
      by_cases hgo : ∃ h : k < xs.length, xs[k].1 < z1
      · obtain ⟨hlt, hlf⟩ := hgo
        exact absurd (hx k xs[k] (List.getElem?_eq_getElem hlt)) (fun ⟨_, _, hA, _⟩ => by cases hA)
      have hpk : posI z1 xs = k := posI_at hk HL.out (fun h h2 => hgo ⟨h, h2⟩)
      have hins : insI xs (z1, z2, z3, z4, z5) = xs.take k ++ (z1, z2, z3, z4, z5) :: xs.drop k := by simp only [insI, hpk]
      have HINS := hid hins
      have HINL := hid (insI_len xs (z1, z2, z3, z4, z5))
      clear hins hpk HL
      have hgoK := hid hgo
      clear hgo
      have hlt : ¬ k < xs.length := fun hlt => (by exact absurd (hx k xs[k] (List.getElem?_eq_getElem hlt)) (fun ⟨_, _, hA, _⟩ => by cases hA))
      obtain rfl : k = xs.length := by omega
      go_wp2_with (fail)
      go_quiet (fail)
      go_wp2_with (fail)
      refine wp_named ?_
      intro WA hWA
      have p0 : WA.cell? ⟨w.heap.size, 0, none⟩ = some (.int .i64 z1) := by rw [hWA]; exact n0
      have p1 : WA.cell? ⟨w.heap.size, 1, none⟩ = some (.int .i64 z2) := by rw [hWA]; exact n1
      have p2 : WA.cell? ⟨w.heap.size, 2, none⟩ = some (.int .i64 z3) := by rw [hWA]; exact n2
      have p3 : WA.cell? ⟨w.heap.size, 3, none⟩ = some (.int .i64 z4) := by rw [hWA]; exact n3
      have p4 : WA.cell? ⟨w.heap.size, 4, none⟩ = some (.int .i64 z5) := by rw [hWA]; exact n4
      have hzA : wr.heap.size ≤ WA.heap.size := by rw [hWA]; exact Nat.le_refl _
      have hbA : Below w.heap.size w WA := by rw [hWA]; first | exact Below.drew hbw'.out | exact below_dn hbw'.out | exact hbw'.out
      have HBA := hid hbA
      have HXA := hid (Rds.below hx hbA)
      clear hWA n0 n1 n2 n3 n4 hbr hbw hbw' hbW hbA
      have HKEEP : Hid (∀ w', Below WA.heap.size WA w' → w'.cell? ⟨w.heap.size, 0, none⟩ = some (.int .i64 z1) ∧ w'.cell? ⟨w.heap.size, 1, none⟩ = some (.int .i64 z2) ∧ w'.cell? ⟨w.heap.size, 2, none⟩ = some (.int .i64 z3) ∧ w'.cell? ⟨w.heap.size, 3, none⟩ = some (.int .i64 z4) ∧ w'.cell? ⟨w.heap.size, 4, none⟩ = some (.int .i64 z5)) := fun w' hb => ⟨(hb.cell (p := ⟨w.heap.size, 0, none⟩) (by show w.heap.size < _; omega)).trans p0, (hb.cell (p := ⟨w.heap.size, 1, none⟩) (by show w.heap.size < _; omega)).trans p1, (hb.cell (p := ⟨w.heap.size, 2, none⟩) (by show w.heap.size < _; omega)).trans p2, (hb.cell (p := ⟨w.heap.size, 3, none⟩) (by show w.heap.size < _; omega)).trans p3, (hb.cell (p := ⟨w.heap.size, 4, none⟩) (by show w.heap.size < _; omega)).trans p4⟩
      clear p0 p1 p2 p3 p4
      refine wp_region_o (n := 12) bkI [0, 4, 6, 7, 11] [0, 4, 7] (FABs (none : Option Addr) q (none) xs cap xs.length z1 z2 z3 z4 z5 WA.heap.size) rfl (by kernel_rfl) (by kernel_rfl) (by intro j hj; simp at hj ⊢; omega) (fun _ _ d _ _ h => by cases d <;> exact h) ?_ ?_ ?_ ?_
      · intro iq v w1 w2 row hF hg hb hl
        match iq with
        | 0 => exact SlO.keep hF hg (hb (by decide))
        | 1 => exact hF
        | 2 => exact hF
        | 3 => exact hF
        | 4 => exact SlO.keep hF hg (hb (by decide))
        | 5 => exact hF
        | 6 => exact BxO.keep hF hg (hb (by decide))
        | 7 => exact SlO.keep hF hg (hb (by decide))
        | 8 => exact hF
        | 9 => exact hF
        | 10 => exact hF
        | 11 => exact SlO.keep hF hg (hb (by decide))
        | m + 12 => exact (show True from trivial)
      · intro iq hi v w1 hF
        have hcase : iq = 0 ∨ iq = 4 ∨ iq = 6 ∨ iq = 7 ∨ iq = 11 := by simpa using hi
        rcases hcase with rfl | rfl | rfl | rfl | rfl
        · exact SlO.at_ hF
        · exact SlO.at_ hF
        · exact BxO.at_ hF
        · exact SlO.at_ hF
        · exact SlO.at_ hF
      · intro iq o hi ho vals w1 hb1 hf hd
        match iq, hi with
        | 0, _ =>
          injection ho with ho
          subst ho
          clear hf hd
          have hz1 := hb1.size
          simp only [fillA, List.take, List.drop, put_none, Act.put, List.setIfInBounds_toArray, List.set_cons_zero, List.set_cons_succ, Nat.reduceAdd]
          go_wp2_with (fail)
          exact ⟨rfl, rfl, none, .inl rfl, World.grownBy_alloc _ _ _, ⟨_, _, rfl, FreshA.newh rfl hz1⟩, fun _ => .inr (.inr ⟨_, rfl, Nat.le_refl _⟩)⟩
        | 1, _ =>
          injection ho with ho
          subst ho
          clear hf hd
          have hz1 := hb1.size
          simp only [fillA, List.take, List.drop, put_none, Act.put, List.setIfInBounds_toArray, List.set_cons_zero, List.set_cons_succ, Nat.reduceAdd]
          go_wp2_with (fail)
          exact ⟨rfl, rfl, none, .inl rfl, World.grownBy.refl _ _, (by first | rfl | (simp [FABs]; done) | (simp [FABs, *]; done) | (simp [FABs, gotV]; done) | (simp [FABs, gotV, *]; done)), fun h => absurd h (by decide)⟩
        | 2, _ =>
          injection ho with ho
          subst ho
          clear hf hd
          have hz1 := hb1.size
          simp only [fillA, List.take, List.drop, put_none, Act.put, List.setIfInBounds_toArray, List.set_cons_zero, List.set_cons_succ, Nat.reduceAdd]
          go_wp2_with (fail)
          exact ⟨rfl, rfl, none, .inl rfl, World.grownBy.refl _ _, (by first | rfl | (simp [FABs]; done) | (simp [FABs, *]; done) | (simp [FABs, gotV]; done) | (simp [FABs, gotV, *]; done)), fun h => absurd h (by decide)⟩
        | 3, _ =>
          injection ho with ho
          subst ho
          have e1 : vals 1 = .slice (none) xs.length cap := hf 1 (by decide) (by kernel_rfl)
          have e2 : vals 2 = .int .i64 ((xs.length : Nat) : Int) := hf 2 (by decide) (by kernel_rfl)
          clear hf hd
          have hz1 := hb1.size
          simp only [fillA, List.take, List.drop, put_none, Act.put, List.setIfInBounds_toArray, List.set_cons_zero, List.set_cons_succ, Nat.reduceAdd, e1, e2]
          go_wp2_with (fail)
          exact ⟨rfl, rfl, none, .inl rfl, World.grownBy.refl _ _, (by first | rfl | (simp [FABs]; done) | (simp [FABs, *]; done) | (simp [FABs, gotV]; done) | (simp [FABs, gotV, *]; done)), fun h => absurd h (by decide)⟩
        | 4, _ =>
          injection ho with ho
          subst ho
          obtain ⟨A0, c0, e0, hF0⟩ := hf 0 (by decide) (by kernel_rfl)
          have e3 : vals 3 = .slice (none) xs.length cap := hf 3 (by decide) (by kernel_rfl)
          clear hf hd
          have hz1 := hb1.size
          simp only [fillA, List.take, List.drop, put_none, Act.put, List.setIfInBounds_toArray, List.set_cons_zero, List.set_cons_succ, Nat.reduceAdd, e0, e3]
          refine wpList_pushesR (xs := ([] : List (Int × Int × Int × Int × Int))) rfl (.tmp 31) (.tmp 34) 25 rfl 48 i0 _ 40 Try.underlying25 hI0 hI1 hI2 hI3 rfl (by decide) (fun _ => rfl) one_Ber 0 rfl rfl hF0 (xs.take xs.length) xs.length (by first | (simp; done) | (simp; omega)) (none) _ rfl (Rds.below (Rds.takeN HXA.out xs.length) hb1) (by unfold maxLen; omega) (by omega) hz1 ?_
          intro A' cp' w' hF' hg' hat'
          exact RQO_of (.slice A' (0 + xs.length) cp') rfl (by first | rfl | (simp [gotV]; done) | (simp [gotV, *]; done)) ⟨blkO A0, .inr ⟨0, by decide, by decide, by kernel_rfl, by rw [e0, bkI_sl]⟩, hg', ⟨A', cp', by first | rfl | (simp; done) | (congr 1; omega), by simpa using hF'⟩, fun _ => by rw [← bkI_sl (m := 0) (c := 0) (A := A0)]; exact bkI_hat hat'⟩
        | 5, _ =>
          injection ho with ho
          subst ho
          clear hf hd
          have hz1 := hb1.size
          simp only [fillA, List.take, List.drop, put_none, Act.put, List.setIfInBounds_toArray, List.set_cons_zero, List.set_cons_succ, Nat.reduceAdd]
          have hK := HKEEP.out w1 hb1
          obtain ⟨k0, k1, k2, k3, k4⟩ := hK
          go_wp2_with (fail)
          exact ⟨rfl, rfl, none, .inl rfl, World.grownBy.refl _ _, (by first | rfl | (simp [FABs]; done) | (simp [FABs, *]; done) | (simp [FABs, gotV]; done) | (simp [FABs, gotV, *]; done)), fun h => absurd h (by decide)⟩
        | 6, _ =>
          injection ho with ho
          subst ho
          have e5 : vals 5 = .agg #[.int .i64 z1, .int .i64 z2, .int .i64 z3, .int .i64 z4, .int .i64 z5] := hf 5 (by decide) (by kernel_rfl)
          clear hf hd
          have hz1 := hb1.size
          simp only [fillA, List.take, List.drop, put_none, Act.put, List.setIfInBounds_toArray, List.set_cons_zero, List.set_cons_succ, Nat.reduceAdd, e5]
          go_wp2_with (fail)
          exact ⟨rfl, rfl, none, .inl rfl, World.grownBy_alloc _ _ _, ⟨_, rfl, hz1, heap_alloc_new _ _⟩, fun _ => .inr (.inr ⟨_, rfl, Nat.le_refl _⟩)⟩
        | 7, _ =>
          injection ho with ho
          subst ho
          obtain ⟨A4, c4, e4, hF4⟩ := hf 4 (by decide) (by kernel_rfl)
          obtain ⟨g6, e6, hB6, hh6⟩ := hf 6 (by decide) (by kernel_rfl)
          have hd4_6 := hd 4 6 (by decide) (by decide) (by decide) (by kernel_rfl) (by kernel_rfl) (by decide) (by decide)
          simp only [e4, e6, bkI_sl, bkI_ag] at hd4_6
          clear hf hd
          have hz1 := hb1.size
          simp only [fillA, List.take, List.drop, put_none, Act.put, List.setIfInBounds_toArray, List.set_cons_zero, List.set_cons_succ, Nat.reduceAdd, e4, e6]
          refine wpList_pushesR (xs := xs.take xs.length) rfl (.tmp 35) (.tmp 37) 25 rfl 48 i0 _ 40 Try.underlying25 hI0 hI1 hI2 hI3 rfl (by decide) (fun _ => rfl) one_Ber xs.length (by first | (simp; done) | (simp; omega)) rfl hF4 [(z1, z2, z3, z4, z5)] 1 rfl (some ⟨g6, 0, none⟩) _ rfl (Rds.ofBox hh6) (by unfold maxLen; omega) (by omega) hz1 ?_
          intro A' cp' w' hF' hg' hat'
          exact RQO_of (.slice A' (xs.length + 1) cp') rfl (by first | rfl | (simp [gotV]; done) | (simp [gotV, *]; done)) ⟨blkO A4, .inr ⟨4, by decide, by decide, by kernel_rfl, by rw [e4, bkI_sl]⟩, hg', ⟨A', cp', by first | rfl | (simp; done) | (congr 1; omega), by exact hF'⟩, fun _ => by rw [← bkI_sl (m := 0) (c := 0) (A := A4)]; exact bkI_hat hat'⟩
        | 8, _ =>
          injection ho with ho
          subst ho
          clear hf hd
          have hz1 := hb1.size
          simp only [fillA, List.take, List.drop, put_none, Act.put, List.setIfInBounds_toArray, List.set_cons_zero, List.set_cons_succ, Nat.reduceAdd]
          go_wp2_with (fail)
          exact ⟨rfl, rfl, none, .inl rfl, World.grownBy.refl _ _, (by first | rfl | (simp [FABs]; done) | (simp [FABs, *]; done) | (simp [FABs, gotV]; done) | (simp [FABs, gotV, *]; done)), fun h => absurd h (by decide)⟩
        | 9, _ =>
          injection ho with ho
          subst ho
          clear hf hd
          have hz1 := hb1.size
          simp only [fillA, List.take, List.drop, put_none, Act.put, List.setIfInBounds_toArray, List.set_cons_zero, List.set_cons_succ, Nat.reduceAdd]
          go_wp2_with (fail)
          exact ⟨rfl, rfl, none, .inl rfl, World.grownBy.refl _ _, (by first | rfl | (simp [FABs]; done) | (simp [FABs, *]; done) | (simp [FABs, gotV]; done) | (simp [FABs, gotV, *]; done)), fun h => absurd h (by decide)⟩
        | 10, _ =>
          injection ho with ho
          subst ho
          have e8 : vals 8 = .slice (none) xs.length cap := hf 8 (by decide) (by kernel_rfl)
          have e9 : vals 9 = .int .i64 ((xs.length : Nat) : Int) := hf 9 (by decide) (by kernel_rfl)
          clear hf hd
          have hz1 := hb1.size
          simp only [fillA, List.take, List.drop, put_none, Act.put, List.setIfInBounds_toArray, List.set_cons_zero, List.set_cons_succ, Nat.reduceAdd, e8, e9]
          go_wp2_with (fail)
          all_goals refine ⟨rfl, rfl, none, .inl rfl, World.grownBy.refl _ _, ?_, fun h => absurd h (by decide)⟩
          all_goals exact ⟨_, (by first | rfl | (show Value.slice _ _ _ = Value.slice _ _ _; rw [Nat.sub_self])), fun h => by first | rfl | omega⟩
        | 11, _ =>
          injection ho with ho
          subst ho
          obtain ⟨A7, c7, e7, hF7⟩ := hf 7 (by decide) (by kernel_rfl)
          obtain ⟨A10, e10, hA10⟩ := hf 10 (by decide) (by kernel_rfl)
          clear hf hd
          have hz1 := hb1.size
          simp only [fillA, List.take, List.drop, put_none, Act.put, List.setIfInBounds_toArray, List.set_cons_zero, List.set_cons_succ, Nat.reduceAdd, e7, e10]
          refine wpList_pushesR (xs := xs.take xs.length ++ [(z1, z2, z3, z4, z5)]) rfl (.tmp 38) (.tmp 41) 25 rfl 48 i0 _ 40 Try.underlying25 hI0 hI1 hI2 hI3 rfl (by decide) (fun _ => rfl) one_Ber (xs.length + 1) (by first | (simp; done) | (simp; omega)) rfl hF7 (xs.drop xs.length) (xs.length - xs.length) (by simp) A10 _ rfl (Rds.below (Rds.dropW HXA.out xs.length (by intro b o e; cases e <;> rfl) hA10) hb1) (by unfold maxLen; omega) (by omega) hz1 ?_
          intro A' cp' w' hF' hg' hat'
          exact RQO_of (.slice A' ((xs.length + 1) + (xs.length - xs.length)) cp') rfl (by first | rfl | (simp [gotV]; done) | (simp [gotV, *]; done)) ⟨blkO A7, .inr ⟨7, by decide, by decide, by kernel_rfl, by rw [e7, bkI_sl]⟩, hg', ⟨A', cp', by first | rfl | (simp; done) | (congr 1; omega), by rw [HINS.out]; simpa using hF'⟩, fun _ => by rw [← bkI_sl (m := 0) (c := 0) (A := A7)]; exact bkI_hat hat'⟩
        | m + 12, h => exact absurd h (by omega)
      · intro vals W5 hb5 hf hd
        have e1 : vals 1 = .slice (none) xs.length cap := hf 1 (by decide) (by decide)
        have e2 : vals 2 = .int .i64 ((xs.length : Nat) : Int) := hf 2 (by decide) (by decide)
        have e3 : vals 3 = .slice (none) xs.length cap := hf 3 (by decide) (by decide)
        have e5 : vals 5 = .agg #[.int .i64 z1, .int .i64 z2, .int .i64 z3, .int .i64 z4, .int .i64 z5] := hf 5 (by decide) (by decide)
        obtain ⟨g6, e6, hB6, hh6⟩ := hf 6 (by decide) (by decide)
        have e8 : vals 8 = .slice (none) xs.length cap := hf 8 (by decide) (by decide)
        have e9 : vals 9 = .int .i64 ((xs.length : Nat) : Int) := hf 9 (by decide) (by decide)
        obtain ⟨A10, e10, hA10⟩ := hf 10 (by decide) (by decide)
        obtain ⟨A11, c11, e11, hF11⟩ := hf 11 (by decide) (by decide)
        have hd6_11 := hd 6 11 (by decide) (by decide) (by decide) (by decide) (by decide) (by decide) (by decide)
        simp only [e6, e11, bkI_sl, bkI_ag] at hd6_11
        clear hf hd
        simp only [fillA, List.take, List.drop, put_none, Act.put, List.setIfInBounds_toArray, List.set_cons_zero, List.set_cons_succ, Nat.reduceAdd, e1, e2, e3, e5, e6, e8, e9, e10, e11]
        go_wp2_with (fail)
        have hbw5 : Below w.heap.size w W5 := Below.trans HBA.out (Below.mono hb5 (by have := HBA.out.size; omega))
        have hFz : FreshA cBer 5 48 w.heap.size W5 A11 c11 (insI xs (z1, z2, z3, z4, z5)) := hF11.mono (by have := HBA.out.size; omega)
        have HF6 := hid hFz
        have HBW := hid hbw5
        clear hF11 hFz hb5 hbw5 HKEEP
        have hval := c_spec_l16Good q A11 (insI xs (z1, z2, z3, z4, z5)) c11 W5 HF6.out.rds (by rw [HINL.out]; omega)
        rw [HINL.out] at hval
        refine hval.mono ?_
        rintro e W7 ⟨rfl, hb7⟩
        have hc7 := cellOf hb7; have hf7 := frozOf hb7; have hz7 := sizeOf hb7; (try simp at hz7)
        cases hg2 : berV q (insI xs (z1, z2, z3, z4, z5))
        · have hV2 : addV q xs (z1, z2, z3, z4, z5) = ([], false) := by simp [addV, hg2]
          have HV2 := hid hV2
          clear hV2
          simp only [hg2]
          go_wp2_with (fail)
          go_ret2
          simp only [HV2.out]
          exact ⟨_, _, rfl, FreshA.new (by have := HBW.out.size; first | omega | (simp at *; omega)), Below.alloc (Below.trans HBW.out (Below.mono hb7 (by have := HBW.out.size; omega))) (by have := HBW.out.size; omega) _⟩
        have hV2 : addV q xs (z1, z2, z3, z4, z5) = (insI xs (z1, z2, z3, z4, z5), true) := by simp only [addV, hg, hg2, and_self, if_true]
        have HV2 := hid hV2
        clear hV2
        simp only [hg2]
        go_wp2_with (fail)
        go_ret2
        simp only [HV2.out, HINL.out]
        exact ⟨_, _, rfl, HF6.out.below hb7, Below.trans HBW.out (Below.mono hb7 (by have := HBW.out.size; omega))⟩

  · cases hg : berV q xs
    · have hV : addV q xs (z1, z2, z3, z4, z5) = ([], false) := by simp [addV, hg]
      rw [hV]
      simp only
      clear hV
      go_enter Try.func36, Try.ntmps36
      go_wp2_with (fail)
      refine (c_spec_l16Good q (some ⟨bx, ox, sp⟩) xs cap _ (by first | exact hx | exact Rds.below hx (by (repeat' (first | exact Below.refl _ _ | assumption | refine Below.setCell ?_ ?_ _ | refine Below.drew ?_ | refine Below.alloc ?_ ?_ _ | refine Below.trans ?_ (Below.mono (by assumption) ?_) | (simp; done) | (simp; omega) | omega)))) hn).mono ?_
      rintro e W1 ⟨rfl, hb1⟩
      have hc1 := cellOf hb1; have hf1 := frozOf hb1; have hz1 := sizeOf hb1; (try simp at hz1)
      simp only [hg]
      go_wp2_with (fail)
      go_ret2
      exact ⟨_, _, rfl, FreshA.new (by first | omega | (simp at *; omega)), by (repeat' (first | exact Below.refl _ _ | assumption | refine Below.setCell ?_ ?_ _ | refine Below.drew ?_ | refine Below.alloc ?_ ?_ _ | refine Below.trans ?_ (Below.mono (by assumption) ?_) | (simp; done) | (simp; omega) | omega))⟩
    have hlen : xs.length ≤ 10 := berV_len hg
    go_enter Try.func36, Try.ntmps36
    go_wp2_with (fail)
    refine (c_spec_l16Good q (some ⟨bx, ox, sp⟩) xs cap _ (by first | exact hx | exact Rds.below hx (by (repeat' (first | exact Below.refl _ _ | assumption | refine Below.setCell ?_ ?_ _ | refine Below.drew ?_ | refine Below.alloc ?_ ?_ _ | refine Below.trans ?_ (Below.mono (by assumption) ?_) | (simp; done) | (simp; omega) | omega)))) hn).mono ?_
    rintro e W1 ⟨rfl, hb1⟩
    have hc1 := cellOf hb1; have hf1 := frozOf hb1; have hz1 := sizeOf hb1; (try simp at hz1)
    simp only [hg]
    go_wp2_with (fail)
    have m0 : W1.cell? ⟨w.heap.size, 0, none⟩ = some (.int .i64 z1) := by first | (simp [go_sem, ↓IntWalk.iteOmega, *]; done) | (simp [go_sem, ↓IntWalk.iteOmega, *]; intros; omega)
    have m1 : W1.cell? ⟨w.heap.size, 1, none⟩ = some (.int .i64 z2) := by first | (simp [go_sem, ↓IntWalk.iteOmega, *]; done) | (simp [go_sem, ↓IntWalk.iteOmega, *]; intros; omega)
    have m2 : W1.cell? ⟨w.heap.size, 2, none⟩ = some (.int .i64 z3) := by first | (simp [go_sem, ↓IntWalk.iteOmega, *]; done) | (simp [go_sem, ↓IntWalk.iteOmega, *]; intros; omega)
    have m3 : W1.cell? ⟨w.heap.size, 3, none⟩ = some (.int .i64 z4) := by first | (simp [go_sem, ↓IntWalk.iteOmega, *]; done) | (simp [go_sem, ↓IntWalk.iteOmega, *]; intros; omega)
    have m4 : W1.cell? ⟨w.heap.size, 4, none⟩ = some (.int .i64 z5) := by first | (simp [go_sem, ↓IntWalk.iteOmega, *]; done) | (simp [go_sem, ↓IntWalk.iteOmega, *]; intros; omega)
    have hbW : Below w.heap.size w W1 := by (repeat' (first | exact Below.refl _ _ | assumption | refine Below.setCell ?_ ?_ _ | refine Below.drew ?_ | refine Below.alloc ?_ ?_ _ | refine Below.trans ?_ (Below.mono (by assumption) ?_) | (simp; done) | (simp; omega) | omega))
    clear hc1 hf1 hb1
    go_loopw [8] (fun iv wr => ∃ k : Nat, k ≤ xs.length ∧ iv = .int .i64 k ∧ (∀ q (hq : q < xs.length), q < k → xs[q].1 < z1) ∧ Below W1.heap.size W1 wr) (fun iv _ => xs.length - (intOf iv).toNat)
    case atStart => exact ⟨0, Nat.zero_le _, rfl, fun q hq hk => absurd hk (Nat.not_lt_zero q), Below.refl _ _⟩
    case round =>
      obtain ⟨k, hk, rfl, hl, hbr⟩ := hrel
      have HL := hid hl
      clear hl
      have hzr := hbr.size
      have n0 := (hbr.cell (p := ⟨w.heap.size, 0, none⟩) (by show w.heap.size < _; omega)).trans m0
      have n1 := (hbr.cell (p := ⟨w.heap.size, 1, none⟩) (by show w.heap.size < _; omega)).trans m1
      have n2 := (hbr.cell (p := ⟨w.heap.size, 2, none⟩) (by show w.heap.size < _; omega)).trans m2
      have n3 := (hbr.cell (p := ⟨w.heap.size, 3, none⟩) (by show w.heap.size < _; omega)).trans m3
      have n4 := (hbr.cell (p := ⟨w.heap.size, 4, none⟩) (by show w.heap.size < _; omega)).trans m4
      have hbw : Below w.heap.size w wr := Below.trans hbW (Below.mono hbr (by omega))
      have hbw' := hid hbw
      clear m0 m1 m2 m3 m4
      by_cases hgo : ∃ h : k < xs.length, xs[k].1 < z1
      · obtain ⟨hlt, hlf⟩ := hgo
        obtain ⟨b', o', hA, hbx, hcx⟩ := hx k xs[k] (List.getElem?_eq_getElem hlt)
        cases hA
        have hx0 := (hbw.cell (p := ⟨bx, _, none⟩) hbx).trans (hcx 0 _ rfl)
        clear hcx
        simp only [Nat.add_zero] at hx0
        have HLF := hid hlf
        generalize xs[k].1 = p at hx0 hlf
        go_wp2_with (fail)
        go_region_held3 (fun w' => w'.cell? ⟨w.heap.size, 0, none⟩ = some (.int .i64 z1) ∧ w'.cell? ⟨bx, ox + k * 5, none⟩ = some (.int .i64 p)) (first | assumption | exact ⟨n0, hx0⟩) (fail)
        go_wp2_with (fail)
        go_roundw
        case rel =>
          refine ⟨k + 1, by omega, by go_num, ?_, by (repeat' (first | exact Below.refl _ _ | assumption | refine Below.setCell ?_ ?_ _ | refine Below.drew ?_ | refine Below.alloc ?_ ?_ _ | refine Below.trans ?_ (Below.mono (by assumption) ?_) | (simp; done) | (simp; omega) | omega))⟩
          intro q hq hk1
          by_cases hqk : q < k
          · exact HL.out q hq hqk
          · have : q = k := by omega
            subst this
            exact HLF.out
        case measure => simp [intOf]; omega
      have hpk : posI z1 xs = k := posI_at hk HL.out (fun h h2 => hgo ⟨h, h2⟩)
      have hins : insI xs (z1, z2, z3, z4, z5) = xs.take k ++ (z1, z2, z3, z4, z5) :: xs.drop k := by simp only [insI, hpk]
      have HINS := hid hins
      have HINL := hid (insI_len xs (z1, z2, z3, z4, z5))
      clear hins hpk HL
      have hgoK := hid hgo
      clear hgo
      by_cases hlt : k < xs.length
      · have hnf : ¬ xs[k].1 < z1 := fun h => hgoK.out ⟨hlt, h⟩
        obtain ⟨b', o', hA, hbx, hcx⟩ := hx k xs[k] (List.getElem?_eq_getElem hlt)
        cases hA
        have hx0 := (hbw.cell (p := ⟨bx, _, none⟩) hbx).trans (hcx 0 _ rfl)
        clear hcx
        simp only [Nat.add_zero] at hx0
        generalize xs[k].1 = p at hx0 hnf
        go_wp2_with (fail)
        go_region_held3 (fun w' => w'.cell? ⟨w.heap.size, 0, none⟩ = some (.int .i64 z1) ∧ w'.cell? ⟨bx, ox + k * 5, none⟩ = some (.int .i64 p)) (first | assumption | exact ⟨n0, hx0⟩) (fail)
        go_wp2_with (fail)
        clear hx0 hnf hbx
        refine wp_named ?_
        intro WA hWA
        have p0 : WA.cell? ⟨w.heap.size, 0, none⟩ = some (.int .i64 z1) := by rw [hWA]; exact n0
        have p1 : WA.cell? ⟨w.heap.size, 1, none⟩ = some (.int .i64 z2) := by rw [hWA]; exact n1
        have p2 : WA.cell? ⟨w.heap.size, 2, none⟩ = some (.int .i64 z3) := by rw [hWA]; exact n2
        have p3 : WA.cell? ⟨w.heap.size, 3, none⟩ = some (.int .i64 z4) := by rw [hWA]; exact n3
        have p4 : WA.cell? ⟨w.heap.size, 4, none⟩ = some (.int .i64 z5) := by rw [hWA]; exact n4
        have hzA : wr.heap.size ≤ WA.heap.size := by rw [hWA]; exact Nat.le_refl _
        have hbA : Below w.heap.size w WA := by rw [hWA]; first | exact Below.drew hbw'.out | exact below_dn hbw'.out | exact hbw'.out
        have HBA := hid hbA
        have HXA := hid (Rds.below hx hbA)
        clear hWA n0 n1 n2 n3 n4 hbr hbw hbw' hbW hbA
        have HKEEP : Hid (∀ w', Below WA.heap.size WA w' → w'.cell? ⟨w.heap.size, 0, none⟩ = some (.int .i64 z1) ∧ w'.cell? ⟨w.heap.size, 1, none⟩ = some (.int .i64 z2) ∧ w'.cell? ⟨w.heap.size, 2, none⟩ = some (.int .i64 z3) ∧ w'.cell? ⟨w.heap.size, 3, none⟩ = some (.int .i64 z4) ∧ w'.cell? ⟨w.heap.size, 4, none⟩ = some (.int .i64 z5)) := fun w' hb => ⟨(hb.cell (p := ⟨w.heap.size, 0, none⟩) (by show w.heap.size < _; omega)).trans p0, (hb.cell (p := ⟨w.heap.size, 1, none⟩) (by show w.heap.size < _; omega)).trans p1, (hb.cell (p := ⟨w.heap.size, 2, none⟩) (by show w.heap.size < _; omega)).trans p2, (hb.cell (p := ⟨w.heap.size, 3, none⟩) (by show w.heap.size < _; omega)).trans p3, (hb.cell (p := ⟨w.heap.size, 4, none⟩) (by show w.heap.size < _; omega)).trans p4⟩
        clear p0 p1 p2 p3 p4
        refine wp_region_o (n := 12) bkI [0, 4, 6, 7, 11] [0, 4, 7] (FABs (some ⟨bx, ox + k * 5, none⟩) q (some ⟨bx, ox, none⟩) xs cap k z1 z2 z3 z4 z5 WA.heap.size) rfl (by kernel_rfl) (by kernel_rfl) (by intro j hj; simp at hj ⊢; omega) (fun _ _ d _ _ h => by cases d <;> exact h) ?_ ?_ ?_ ?_
        · intro iq v w1 w2 row hF hg hb hl
          match iq with
          | 0 => exact SlO.keep hF hg (hb (by decide))
          | 1 => exact hF
          | 2 => exact hF
          | 3 => exact hF
          | 4 => exact SlO.keep hF hg (hb (by decide))
          | 5 => exact hF
          | 6 => exact BxO.keep hF hg (hb (by decide))
          | 7 => exact SlO.keep hF hg (hb (by decide))
          | 8 => exact hF
          | 9 => exact hF
          | 10 => exact hF
          | 11 => exact SlO.keep hF hg (hb (by decide))
          | m + 12 => exact (show True from trivial)
        · intro iq hi v w1 hF
          have hcase : iq = 0 ∨ iq = 4 ∨ iq = 6 ∨ iq = 7 ∨ iq = 11 := by simpa using hi
          rcases hcase with rfl | rfl | rfl | rfl | rfl
          · exact SlO.at_ hF
          · exact SlO.at_ hF
          · exact BxO.at_ hF
          · exact SlO.at_ hF
          · exact SlO.at_ hF
        · intro iq o hi ho vals w1 hb1 hf hd
          match iq, hi with
          | 0, _ =>
            injection ho with ho
            subst ho
            clear hf hd
            have hz1 := hb1.size
            simp only [fillA, List.take, List.drop, put_none, Act.put, List.setIfInBounds_toArray, List.set_cons_zero, List.set_cons_succ, Nat.reduceAdd]
            go_wp2_with (fail)
            exact ⟨rfl, rfl, none, .inl rfl, World.grownBy_alloc _ _ _, ⟨_, _, rfl, FreshA.newh rfl hz1⟩, fun _ => .inr (.inr ⟨_, rfl, Nat.le_refl _⟩)⟩
          | 1, _ =>
            injection ho with ho
            subst ho
            clear hf hd
            have hz1 := hb1.size
            simp only [fillA, List.take, List.drop, put_none, Act.put, List.setIfInBounds_toArray, List.set_cons_zero, List.set_cons_succ, Nat.reduceAdd]
            go_wp2_with (fail)
            exact ⟨rfl, rfl, none, .inl rfl, World.grownBy.refl _ _, (by first | rfl | (simp [FABs]; done) | (simp [FABs, *]; done) | (simp [FABs, gotV]; done) | (simp [FABs, gotV, *]; done)), fun h => absurd h (by decide)⟩
          | 2, _ =>
            injection ho with ho
            subst ho
            clear hf hd
            have hz1 := hb1.size
            simp only [fillA, List.take, List.drop, put_none, Act.put, List.setIfInBounds_toArray, List.set_cons_zero, List.set_cons_succ, Nat.reduceAdd]
            go_wp2_with (fail)
            exact ⟨rfl, rfl, none, .inl rfl, World.grownBy.refl _ _, (by first | rfl | (simp [FABs]; done) | (simp [FABs, *]; done) | (simp [FABs, gotV]; done) | (simp [FABs, gotV, *]; done)), fun h => absurd h (by decide)⟩
          | 3, _ =>
            injection ho with ho
            subst ho
            have e1 : vals 1 = .slice (some ⟨bx, ox, none⟩) xs.length cap := hf 1 (by decide) (by kernel_rfl)
            have e2 : vals 2 = .int .i64 ((k : Nat) : Int) := hf 2 (by decide) (by kernel_rfl)
            clear hf hd
            have hz1 := hb1.size
            simp only [fillA, List.take, List.drop, put_none, Act.put, List.setIfInBounds_toArray, List.set_cons_zero, List.set_cons_succ, Nat.reduceAdd, e1, e2]
            go_wp2_with (fail)
            exact ⟨rfl, rfl, none, .inl rfl, World.grownBy.refl _ _, (by first | rfl | (simp [FABs]; done) | (simp [FABs, *]; done) | (simp [FABs, gotV]; done) | (simp [FABs, gotV, *]; done)), fun h => absurd h (by decide)⟩
          | 4, _ =>
            injection ho with ho
            subst ho
            obtain ⟨A0, c0, e0, hF0⟩ := hf 0 (by decide) (by kernel_rfl)
            have e3 : vals 3 = .slice (some ⟨bx, ox, none⟩) k cap := hf 3 (by decide) (by kernel_rfl)
            clear hf hd
            have hz1 := hb1.size
            simp only [fillA, List.take, List.drop, put_none, Act.put, List.setIfInBounds_toArray, List.set_cons_zero, List.set_cons_succ, Nat.reduceAdd, e0, e3]
            refine wpList_pushesR (xs := ([] : List (Int × Int × Int × Int × Int))) rfl (.tmp 31) (.tmp 34) 25 rfl 48 i0 _ 40 Try.underlying25 hI0 hI1 hI2 hI3 rfl (by decide) (fun _ => rfl) one_Ber 0 rfl rfl hF0 (xs.take k) k (by first | (simp; done) | (simp; omega)) (some ⟨bx, ox, none⟩) _ rfl (Rds.below (Rds.takeN HXA.out k) hb1) (by unfold maxLen; omega) (by omega) hz1 ?_
            intro A' cp' w' hF' hg' hat'
            exact RQO_of (.slice A' (0 + k) cp') rfl (by first | rfl | (simp [gotV]; done) | (simp [gotV, *]; done)) ⟨blkO A0, .inr ⟨0, by decide, by decide, by kernel_rfl, by rw [e0, bkI_sl]⟩, hg', ⟨A', cp', by first | rfl | (simp; done) | (congr 1; omega), by simpa using hF'⟩, fun _ => by rw [← bkI_sl (m := 0) (c := 0) (A := A0)]; exact bkI_hat hat'⟩
          | 5, _ =>
            injection ho with ho
            subst ho
            clear hf hd
            have hz1 := hb1.size
            simp only [fillA, List.take, List.drop, put_none, Act.put, List.setIfInBounds_toArray, List.set_cons_zero, List.set_cons_succ, Nat.reduceAdd]
            have hK := HKEEP.out w1 hb1
            obtain ⟨k0, k1, k2, k3, k4⟩ := hK
            go_wp2_with (fail)
            exact ⟨rfl, rfl, none, .inl rfl, World.grownBy.refl _ _, (by first | rfl | (simp [FABs]; done) | (simp [FABs, *]; done) | (simp [FABs, gotV]; done) | (simp [FABs, gotV, *]; done)), fun h => absurd h (by decide)⟩
          | 6, _ =>
            injection ho with ho
            subst ho
            have e5 : vals 5 = .agg #[.int .i64 z1, .int .i64 z2, .int .i64 z3, .int .i64 z4, .int .i64 z5] := hf 5 (by decide) (by kernel_rfl)
            clear hf hd
            have hz1 := hb1.size
            simp only [fillA, List.take, List.drop, put_none, Act.put, List.setIfInBounds_toArray, List.set_cons_zero, List.set_cons_succ, Nat.reduceAdd, e5]
            go_wp2_with (fail)
            exact ⟨rfl, rfl, none, .inl rfl, World.grownBy_alloc _ _ _, ⟨_, rfl, hz1, heap_alloc_new _ _⟩, fun _ => .inr (.inr ⟨_, rfl, Nat.le_refl _⟩)⟩
          | 7, _ =>
            injection ho with ho
            subst ho
            obtain ⟨A4, c4, e4, hF4⟩ := hf 4 (by decide) (by kernel_rfl)
            obtain ⟨g6, e6, hB6, hh6⟩ := hf 6 (by decide) (by kernel_rfl)
            have hd4_6 := hd 4 6 (by decide) (by decide) (by decide) (by kernel_rfl) (by kernel_rfl) (by decide) (by decide)
            simp only [e4, e6, bkI_sl, bkI_ag] at hd4_6
            clear hf hd
            have hz1 := hb1.size
            simp only [fillA, List.take, List.drop, put_none, Act.put, List.setIfInBounds_toArray, List.set_cons_zero, List.set_cons_succ, Nat.reduceAdd, e4, e6]
            refine wpList_pushesR (xs := xs.take k) rfl (.tmp 35) (.tmp 37) 25 rfl 48 i0 _ 40 Try.underlying25 hI0 hI1 hI2 hI3 rfl (by decide) (fun _ => rfl) one_Ber k (by first | (simp; done) | (simp; omega)) rfl hF4 [(z1, z2, z3, z4, z5)] 1 rfl (some ⟨g6, 0, none⟩) _ rfl (Rds.ofBox hh6) (by unfold maxLen; omega) (by omega) hz1 ?_
            intro A' cp' w' hF' hg' hat'
            exact RQO_of (.slice A' (k + 1) cp') rfl (by first | rfl | (simp [gotV]; done) | (simp [gotV, *]; done)) ⟨blkO A4, .inr ⟨4, by decide, by decide, by kernel_rfl, by rw [e4, bkI_sl]⟩, hg', ⟨A', cp', by first | rfl | (simp; done) | (congr 1; omega), by exact hF'⟩, fun _ => by rw [← bkI_sl (m := 0) (c := 0) (A := A4)]; exact bkI_hat hat'⟩
          | 8, _ =>
            injection ho with ho
            subst ho
            clear hf hd
            have hz1 := hb1.size
            simp only [fillA, List.take, List.drop, put_none, Act.put, List.setIfInBounds_toArray, List.set_cons_zero, List.set_cons_succ, Nat.reduceAdd]
            go_wp2_with (fail)
            exact ⟨rfl, rfl, none, .inl rfl, World.grownBy.refl _ _, (by first | rfl | (simp [FABs]; done) | (simp [FABs, *]; done) | (simp [FABs, gotV]; done) | (simp [FABs, gotV, *]; done)), fun h => absurd h (by decide)⟩
          | 9, _ =>
            injection ho with ho
            subst ho
            clear hf hd
            have hz1 := hb1.size
            simp only [fillA, List.take, List.drop, put_none, Act.put, List.setIfInBounds_toArray, List.set_cons_zero, List.set_cons_succ, Nat.reduceAdd]
            go_wp2_with (fail)
            exact ⟨rfl, rfl, none, .inl rfl, World.grownBy.refl _ _, (by first | rfl | (simp [FABs]; done) | (simp [FABs, *]; done) | (simp [FABs, gotV]; done) | (simp [FABs, gotV, *]; done)), fun h => absurd h (by decide)⟩
          | 10, _ =>
            injection ho with ho
            subst ho
            have e8 : vals 8 = .slice (some ⟨bx, ox, none⟩) xs.length cap := hf 8 (by decide) (by kernel_rfl)
            have e9 : vals 9 = .int .i64 ((k : Nat) : Int) := hf 9 (by decide) (by kernel_rfl)
            clear hf hd
            have hz1 := hb1.size
            simp only [fillA, List.take, List.drop, put_none, Act.put, List.setIfInBounds_toArray, List.set_cons_zero, List.set_cons_succ, Nat.reduceAdd, e8, e9]
            go_wp2_with (fail)
            all_goals refine ⟨rfl, rfl, none, .inl rfl, World.grownBy.refl _ _, ?_, fun h => absurd h (by decide)⟩
            all_goals exact ⟨_, (by first | rfl | (show Value.slice _ _ _ = Value.slice _ _ _; rw [Nat.sub_self])), fun h => by first | rfl | omega⟩
          | 11, _ =>
            injection ho with ho
            subst ho
            obtain ⟨A7, c7, e7, hF7⟩ := hf 7 (by decide) (by kernel_rfl)
            obtain ⟨A10, e10, hA10⟩ := hf 10 (by decide) (by kernel_rfl)
            clear hf hd
            have hz1 := hb1.size
            simp only [fillA, List.take, List.drop, put_none, Act.put, List.setIfInBounds_toArray, List.set_cons_zero, List.set_cons_succ, Nat.reduceAdd, e7, e10]
            refine wpList_pushesR (xs := xs.take k ++ [(z1, z2, z3, z4, z5)]) rfl (.tmp 38) (.tmp 41) 25 rfl 48 i0 _ 40 Try.underlying25 hI0 hI1 hI2 hI3 rfl (by decide) (fun _ => rfl) one_Ber (k + 1) (by first | (simp; done) | (simp; omega)) rfl hF7 (xs.drop k) (xs.length - k) (by simp) A10 _ rfl (Rds.below (Rds.dropW HXA.out k (by intro b o e; cases e <;> rfl) hA10) hb1) (by unfold maxLen; omega) (by omega) hz1 ?_
            intro A' cp' w' hF' hg' hat'
            exact RQO_of (.slice A' ((k + 1) + (xs.length - k)) cp') rfl (by first | rfl | (simp [gotV]; done) | (simp [gotV, *]; done)) ⟨blkO A7, .inr ⟨7, by decide, by decide, by kernel_rfl, by rw [e7, bkI_sl]⟩, hg', ⟨A', cp', by first | rfl | (simp; done) | (congr 1; omega), by rw [HINS.out]; simpa using hF'⟩, fun _ => by rw [← bkI_sl (m := 0) (c := 0) (A := A7)]; exact bkI_hat hat'⟩
          | m + 12, h => exact absurd h (by omega)
        · intro vals W5 hb5 hf hd
          have e1 : vals 1 = .slice (some ⟨bx, ox, none⟩) xs.length cap := hf 1 (by decide) (by decide)
          have e2 : vals 2 = .int .i64 ((k : Nat) : Int) := hf 2 (by decide) (by decide)
          have e3 : vals 3 = .slice (some ⟨bx, ox, none⟩) k cap := hf 3 (by decide) (by decide)
          have e5 : vals 5 = .agg #[.int .i64 z1, .int .i64 z2, .int .i64 z3, .int .i64 z4, .int .i64 z5] := hf 5 (by decide) (by decide)
          obtain ⟨g6, e6, hB6, hh6⟩ := hf 6 (by decide) (by decide)
          have e8 : vals 8 = .slice (some ⟨bx, ox, none⟩) xs.length cap := hf 8 (by decide) (by decide)
          have e9 : vals 9 = .int .i64 ((k : Nat) : Int) := hf 9 (by decide) (by decide)
          obtain ⟨A10, e10, hA10⟩ := hf 10 (by decide) (by decide)
          obtain ⟨A11, c11, e11, hF11⟩ := hf 11 (by decide) (by decide)
          have hd6_11 := hd 6 11 (by decide) (by decide) (by decide) (by decide) (by decide) (by decide) (by decide)
          simp only [e6, e11, bkI_sl, bkI_ag] at hd6_11
          clear hf hd
          simp only [fillA, List.take, List.drop, put_none, Act.put, List.setIfInBounds_toArray, List.set_cons_zero, List.set_cons_succ, Nat.reduceAdd, e1, e2, e3, e5, e6, e8, e9, e10, e11]
          go_wp2_with (fail)
          have hbw5 : Below w.heap.size w W5 := Below.trans HBA.out (Below.mono hb5 (by have := HBA.out.size; omega))
          have hFz : FreshA cBer 5 48 w.heap.size W5 A11 c11 (insI xs (z1, z2, z3, z4, z5)) := hF11.mono (by have := HBA.out.size; omega)
          have HF6 := hid hFz
          have HBW := hid hbw5
          clear hF11 hFz hb5 hbw5 HKEEP
          have hval := c_spec_l16Good q A11 (insI xs (z1, z2, z3, z4, z5)) c11 W5 HF6.out.rds (by rw [HINL.out]; omega)
          rw [HINL.out] at hval
          refine hval.mono ?_
          rintro e W7 ⟨rfl, hb7⟩
          have hc7 := cellOf hb7; have hf7 := frozOf hb7; have hz7 := sizeOf hb7; (try simp at hz7)
          cases hg2 : berV q (insI xs (z1, z2, z3, z4, z5))
          · have hV2 : addV q xs (z1, z2, z3, z4, z5) = ([], false) := by simp [addV, hg2]
            have HV2 := hid hV2
            clear hV2
            simp only [hg2]
            go_wp2_with (fail)
            go_ret2
            simp only [HV2.out]
            exact ⟨_, _, rfl, FreshA.new (by have := HBW.out.size; first | omega | (simp at *; omega)), Below.alloc (Below.trans HBW.out (Below.mono hb7 (by have := HBW.out.size; omega))) (by have := HBW.out.size; omega) _⟩
          have hV2 : addV q xs (z1, z2, z3, z4, z5) = (insI xs (z1, z2, z3, z4, z5), true) := by simp only [addV, hg, hg2, and_self, if_true]
          have HV2 := hid hV2
          clear hV2
          simp only [hg2]
          go_wp2_with (fail)
          go_ret2
          simp only [HV2.out, HINL.out]
          exact ⟨_, _, rfl, HF6.out.below hb7, Below.trans HBW.out (Below.mono hb7 (by have := HBW.out.size; omega))⟩

      obtain rfl : k = xs.length := by omega
      go_wp2_with (fail)
      go_quiet (fail)
      go_wp2_with (fail)
      refine wp_named ?_
      intro WA hWA
      have p0 : WA.cell? ⟨w.heap.size, 0, none⟩ = some (.int .i64 z1) := by rw [hWA]; exact n0
      have p1 : WA.cell? ⟨w.heap.size, 1, none⟩ = some (.int .i64 z2) := by rw [hWA]; exact n1
      have p2 : WA.cell? ⟨w.heap.size, 2, none⟩ = some (.int .i64 z3) := by rw [hWA]; exact n2
      have p3 : WA.cell? ⟨w.heap.size, 3, none⟩ = some (.int .i64 z4) := by rw [hWA]; exact n3
      have p4 : WA.cell? ⟨w.heap.size, 4, none⟩ = some (.int .i64 z5) := by rw [hWA]; exact n4
      have hzA : wr.heap.size ≤ WA.heap.size := by rw [hWA]; exact Nat.le_refl _
      have hbA : Below w.heap.size w WA := by rw [hWA]; first | exact Below.drew hbw'.out | exact below_dn hbw'.out | exact hbw'.out
      have HBA := hid hbA
      have HXA := hid (Rds.below hx hbA)
      clear hWA n0 n1 n2 n3 n4 hbr hbw hbw' hbW hbA
      have HKEEP : Hid (∀ w', Below WA.heap.size WA w' → w'.cell? ⟨w.heap.size, 0, none⟩ = some (.int .i64 z1) ∧ w'.cell? ⟨w.heap.size, 1, none⟩ = some (.int .i64 z2) ∧ w'.cell? ⟨w.heap.size, 2, none⟩ = some (.int .i64 z3) ∧ w'.cell? ⟨w.heap.size, 3, none⟩ = some (.int .i64 z4) ∧ w'.cell? ⟨w.heap.size, 4, none⟩ = some (.int .i64 z5)) := fun w' hb => ⟨(hb.cell (p := ⟨w.heap.size, 0, none⟩) (by show w.heap.size < _; omega)).trans p0, (hb.cell (p := ⟨w.heap.size, 1, none⟩) (by show w.heap.size < _; omega)).trans p1, (hb.cell (p := ⟨w.heap.size, 2, none⟩) (by show w.heap.size < _; omega)).trans p2, (hb.cell (p := ⟨w.heap.size, 3, none⟩) (by show w.heap.size < _; omega)).trans p3, (hb.cell (p := ⟨w.heap.size, 4, none⟩) (by show w.heap.size < _; omega)).trans p4⟩
      clear p0 p1 p2 p3 p4
      refine wp_region_o (n := 12) bkI [0, 4, 6, 7, 11] [0, 4, 7] (FABs (some ⟨bx, ox + xs.length * 5, sp⟩) q (some ⟨bx, ox, sp⟩) xs cap xs.length z1 z2 z3 z4 z5 WA.heap.size) rfl (by kernel_rfl) (by kernel_rfl) (by intro j hj; simp at hj ⊢; omega) (fun _ _ d _ _ h => by cases d <;> exact h) ?_ ?_ ?_ ?_
      · intro iq v w1 w2 row hF hg hb hl
        match iq with
        | 0 => exact SlO.keep hF hg (hb (by decide))
        | 1 => exact hF
        | 2 => exact hF
        | 3 => exact hF
        | 4 => exact SlO.keep hF hg (hb (by decide))
        | 5 => exact hF
        | 6 => exact BxO.keep hF hg (hb (by decide))
        | 7 => exact SlO.keep hF hg (hb (by decide))
        | 8 => exact hF
        | 9 => exact hF
        | 10 => exact hF
        | 11 => exact SlO.keep hF hg (hb (by decide))
        | m + 12 => exact (show True from trivial)
      · intro iq hi v w1 hF
        have hcase : iq = 0 ∨ iq = 4 ∨ iq = 6 ∨ iq = 7 ∨ iq = 11 := by simpa using hi
        rcases hcase with rfl | rfl | rfl | rfl | rfl
        · exact SlO.at_ hF
        · exact SlO.at_ hF
        · exact BxO.at_ hF
        · exact SlO.at_ hF
        · exact SlO.at_ hF
      · intro iq o hi ho vals w1 hb1 hf hd
        match iq, hi with
        | 0, _ =>
          injection ho with ho
          subst ho
          clear hf hd
          have hz1 := hb1.size
          simp only [fillA, List.take, List.drop, put_none, Act.put, List.setIfInBounds_toArray, List.set_cons_zero, List.set_cons_succ, Nat.reduceAdd]
          go_wp2_with (fail)
          exact ⟨rfl, rfl, none, .inl rfl, World.grownBy_alloc _ _ _, ⟨_, _, rfl, FreshA.newh rfl hz1⟩, fun _ => .inr (.inr ⟨_, rfl, Nat.le_refl _⟩)⟩
        | 1, _ =>
          injection ho with ho
          subst ho
          clear hf hd
          have hz1 := hb1.size
          simp only [fillA, List.take, List.drop, put_none, Act.put, List.setIfInBounds_toArray, List.set_cons_zero, List.set_cons_succ, Nat.reduceAdd]
          go_wp2_with (fail)
          exact ⟨rfl, rfl, none, .inl rfl, World.grownBy.refl _ _, (by first | rfl | (simp [FABs]; done) | (simp [FABs, *]; done) | (simp [FABs, gotV]; done) | (simp [FABs, gotV, *]; done)), fun h => absurd h (by decide)⟩
        | 2, _ =>
          injection ho with ho
          subst ho
          clear hf hd
          have hz1 := hb1.size
          simp only [fillA, List.take, List.drop, put_none, Act.put, List.setIfInBounds_toArray, List.set_cons_zero, List.set_cons_succ, Nat.reduceAdd]
          go_wp2_with (fail)
          exact ⟨rfl, rfl, none, .inl rfl, World.grownBy.refl _ _, (by first | rfl | (simp [FABs]; done) | (simp [FABs, *]; done) | (simp [FABs, gotV]; done) | (simp [FABs, gotV, *]; done)), fun h => absurd h (by decide)⟩
        | 3, _ =>
          injection ho with ho
          subst ho
          have e1 : vals 1 = .slice (some ⟨bx, ox, sp⟩) xs.length cap := hf 1 (by decide) (by kernel_rfl)
          have e2 : vals 2 = .int .i64 ((xs.length : Nat) : Int) := hf 2 (by decide) (by kernel_rfl)
          clear hf hd
          have hz1 := hb1.size
          simp only [fillA, List.take, List.drop, put_none, Act.put, List.setIfInBounds_toArray, List.set_cons_zero, List.set_cons_succ, Nat.reduceAdd, e1, e2]
          go_wp2_with (fail)
          exact ⟨rfl, rfl, none, .inl rfl, World.grownBy.refl _ _, (by first | rfl | (simp [FABs]; done) | (simp [FABs, *]; done) | (simp [FABs, gotV]; done) | (simp [FABs, gotV, *]; done)), fun h => absurd h (by decide)⟩
        | 4, _ =>
          injection ho with ho
          subst ho
          obtain ⟨A0, c0, e0, hF0⟩ := hf 0 (by decide) (by kernel_rfl)
          have e3 : vals 3 = .slice (some ⟨bx, ox, sp⟩) xs.length cap := hf 3 (by decide) (by kernel_rfl)
          clear hf hd
          have hz1 := hb1.size
          simp only [fillA, List.take, List.drop, put_none, Act.put, List.setIfInBounds_toArray, List.set_cons_zero, List.set_cons_succ, Nat.reduceAdd, e0, e3]
          refine wpList_pushesR (xs := ([] : List (Int × Int × Int × Int × Int))) rfl (.tmp 31) (.tmp 34) 25 rfl 48 i0 _ 40 Try.underlying25 hI0 hI1 hI2 hI3 rfl (by decide) (fun _ => rfl) one_Ber 0 rfl rfl hF0 (xs.take xs.length) xs.length (by first | (simp; done) | (simp; omega)) (some ⟨bx, ox, sp⟩) _ rfl (Rds.below (Rds.takeN HXA.out xs.length) hb1) (by unfold maxLen; omega) (by omega) hz1 ?_
          intro A' cp' w' hF' hg' hat'
          exact RQO_of (.slice A' (0 + xs.length) cp') rfl (by first | rfl | (simp [gotV]; done) | (simp [gotV, *]; done)) ⟨blkO A0, .inr ⟨0, by decide, by decide, by kernel_rfl, by rw [e0, bkI_sl]⟩, hg', ⟨A', cp', by first | rfl | (simp; done) | (congr 1; omega), by simpa using hF'⟩, fun _ => by rw [← bkI_sl (m := 0) (c := 0) (A := A0)]; exact bkI_hat hat'⟩
        | 5, _ =>
          injection ho with ho
          subst ho
          clear hf hd
          have hz1 := hb1.size
          simp only [fillA, List.take, List.drop, put_none, Act.put, List.setIfInBounds_toArray, List.set_cons_zero, List.set_cons_succ, Nat.reduceAdd]
          have hK := HKEEP.out w1 hb1
          obtain ⟨k0, k1, k2, k3, k4⟩ := hK
          go_wp2_with (fail)
          exact ⟨rfl, rfl, none, .inl rfl, World.grownBy.refl _ _, (by first | rfl | (simp [FABs]; done) | (simp [FABs, *]; done) | (simp [FABs, gotV]; done) | (simp [FABs, gotV, *]; done)), fun h => absurd h (by decide)⟩
        | 6, _ =>
          injection ho with ho
          subst ho
          have e5 : vals 5 = .agg #[.int .i64 z1, .int .i64 z2, .int .i64 z3, .int .i64 z4, .int .i64 z5] := hf 5 (by decide) (by kernel_rfl)
          clear hf hd
          have hz1 := hb1.size
          simp only [fillA, List.take, List.drop, put_none, Act.put, List.setIfInBounds_toArray, List.set_cons_zero, List.set_cons_succ, Nat.reduceAdd, e5]
          go_wp2_with (fail)
          exact ⟨rfl, rfl, none, .inl rfl, World.grownBy_alloc _ _ _, ⟨_, rfl, hz1, heap_alloc_new _ _⟩, fun _ => .inr (.inr ⟨_, rfl, Nat.le_refl _⟩)⟩
        | 7, _ =>
          injection ho with ho
          subst ho
          obtain ⟨A4, c4, e4, hF4⟩ := hf 4 (by decide) (by kernel_rfl)
          obtain ⟨g6, e6, hB6, hh6⟩ := hf 6 (by decide) (by kernel_rfl)
          have hd4_6 := hd 4 6 (by decide) (by decide) (by decide) (by kernel_rfl) (by kernel_rfl) (by decide) (by decide)
          simp only [e4, e6, bkI_sl, bkI_ag] at hd4_6
          clear hf hd
          have hz1 := hb1.size
          simp only [fillA, List.take, List.drop, put_none, Act.put, List.setIfInBounds_toArray, List.set_cons_zero, List.set_cons_succ, Nat.reduceAdd, e4, e6]
          refine wpList_pushesR (xs := xs.take xs.length) rfl (.tmp 35) (.tmp 37) 25 rfl 48 i0 _ 40 Try.underlying25 hI0 hI1 hI2 hI3 rfl (by decide) (fun _ => rfl) one_Ber xs.length (by first | (simp; done) | (simp; omega)) rfl hF4 [(z1, z2, z3, z4, z5)] 1 rfl (some ⟨g6, 0, none⟩) _ rfl (Rds.ofBox hh6) (by unfold maxLen; omega) (by omega) hz1 ?_
          intro A' cp' w' hF' hg' hat'
          exact RQO_of (.slice A' (xs.length + 1) cp') rfl (by first | rfl | (simp [gotV]; done) | (simp [gotV, *]; done)) ⟨blkO A4, .inr ⟨4, by decide, by decide, by kernel_rfl, by rw [e4, bkI_sl]⟩, hg', ⟨A', cp', by first | rfl | (simp; done) | (congr 1; omega), by exact hF'⟩, fun _ => by rw [← bkI_sl (m := 0) (c := 0) (A := A4)]; exact bkI_hat hat'⟩
        | 8, _ =>
          injection ho with ho
          subst ho
          clear hf hd
          have hz1 := hb1.size
          simp only [fillA, List.take, List.drop, put_none, Act.put, List.setIfInBounds_toArray, List.set_cons_zero, List.set_cons_succ, Nat.reduceAdd]
          go_wp2_with (fail)
          exact ⟨rfl, rfl, none, .inl rfl, World.grownBy.refl _ _, (by first | rfl | (simp [FABs]; done) | (simp [FABs, *]; done) | (simp [FABs, gotV]; done) | (simp [FABs, gotV, *]; done)), fun h => absurd h (by decide)⟩
        | 9, _ =>
          injection ho with ho
          subst ho
          clear hf hd
          have hz1 := hb1.size
          simp only [fillA, List.take, List.drop, put_none, Act.put, List.setIfInBounds_toArray, List.set_cons_zero, List.set_cons_succ, Nat.reduceAdd]
          go_wp2_with (fail)
          exact ⟨rfl, rfl, none, .inl rfl, World.grownBy.refl _ _, (by first | rfl | (simp [FABs]; done) | (simp [FABs, *]; done) | (simp [FABs, gotV]; done) | (simp [FABs, gotV, *]; done)), fun h => absurd h (by decide)⟩
        | 10, _ =>
          injection ho with ho
          subst ho
          have e8 : vals 8 = .slice (some ⟨bx, ox, sp⟩) xs.length cap := hf 8 (by decide) (by kernel_rfl)
          have e9 : vals 9 = .int .i64 ((xs.length : Nat) : Int) := hf 9 (by decide) (by kernel_rfl)
          clear hf hd
          have hz1 := hb1.size
          simp only [fillA, List.take, List.drop, put_none, Act.put, List.setIfInBounds_toArray, List.set_cons_zero, List.set_cons_succ, Nat.reduceAdd, e8, e9]
          go_wp2_with (fail)
          all_goals refine ⟨rfl, rfl, none, .inl rfl, World.grownBy.refl _ _, ?_, fun h => absurd h (by decide)⟩
          all_goals exact ⟨_, (by first | rfl | (show Value.slice _ _ _ = Value.slice _ _ _; rw [Nat.sub_self])), fun h => by first | rfl | omega⟩
        | 11, _ =>
          injection ho with ho
          subst ho
          obtain ⟨A7, c7, e7, hF7⟩ := hf 7 (by decide) (by kernel_rfl)
          obtain ⟨A10, e10, hA10⟩ := hf 10 (by decide) (by kernel_rfl)
          clear hf hd
          have hz1 := hb1.size
          simp only [fillA, List.take, List.drop, put_none, Act.put, List.setIfInBounds_toArray, List.set_cons_zero, List.set_cons_succ, Nat.reduceAdd, e7, e10]
          refine wpList_pushesR (xs := xs.take xs.length ++ [(z1, z2, z3, z4, z5)]) rfl (.tmp 38) (.tmp 41) 25 rfl 48 i0 _ 40 Try.underlying25 hI0 hI1 hI2 hI3 rfl (by decide) (fun _ => rfl) one_Ber (xs.length + 1) (by first | (simp; done) | (simp; omega)) rfl hF7 (xs.drop xs.length) (xs.length - xs.length) (by simp) A10 _ rfl (Rds.below (Rds.dropW HXA.out xs.length (by intro b o e; cases e <;> rfl) hA10) hb1) (by unfold maxLen; omega) (by omega) hz1 ?_
          intro A' cp' w' hF' hg' hat'
          exact RQO_of (.slice A' ((xs.length + 1) + (xs.length - xs.length)) cp') rfl (by first | rfl | (simp [gotV]; done) | (simp [gotV, *]; done)) ⟨blkO A7, .inr ⟨7, by decide, by decide, by kernel_rfl, by rw [e7, bkI_sl]⟩, hg', ⟨A', cp', by first | rfl | (simp; done) | (congr 1; omega), by rw [HINS.out]; simpa using hF'⟩, fun _ => by rw [← bkI_sl (m := 0) (c := 0) (A := A7)]; exact bkI_hat hat'⟩
        | m + 12, h => exact absurd h (by omega)
      · intro vals W5 hb5 hf hd
        have e1 : vals 1 = .slice (some ⟨bx, ox, sp⟩) xs.length cap := hf 1 (by decide) (by decide)
        have e2 : vals 2 = .int .i64 ((xs.length : Nat) : Int) := hf 2 (by decide) (by decide)
        have e3 : vals 3 = .slice (some ⟨bx, ox, sp⟩) xs.length cap := hf 3 (by decide) (by decide)
        have e5 : vals 5 = .agg #[.int .i64 z1, .int .i64 z2, .int .i64 z3, .int .i64 z4, .int .i64 z5] := hf 5 (by decide) (by decide)
        obtain ⟨g6, e6, hB6, hh6⟩ := hf 6 (by decide) (by decide)
        have e8 : vals 8 = .slice (some ⟨bx, ox, sp⟩) xs.length cap := hf 8 (by decide) (by decide)
        have e9 : vals 9 = .int .i64 ((xs.length : Nat) : Int) := hf 9 (by decide) (by decide)
        obtain ⟨A10, e10, hA10⟩ := hf 10 (by decide) (by decide)
        obtain ⟨A11, c11, e11, hF11⟩ := hf 11 (by decide) (by decide)
        have hd6_11 := hd 6 11 (by decide) (by decide) (by decide) (by decide) (by decide) (by decide) (by decide)
        simp only [e6, e11, bkI_sl, bkI_ag] at hd6_11
        clear hf hd
        simp only [fillA, List.take, List.drop, put_none, Act.put, List.setIfInBounds_toArray, List.set_cons_zero, List.set_cons_succ, Nat.reduceAdd, e1, e2, e3, e5, e6, e8, e9, e10, e11]
        go_wp2_with (fail)
        have hbw5 : Below w.heap.size w W5 := Below.trans HBA.out (Below.mono hb5 (by have := HBA.out.size; omega))
        have hFz : FreshA cBer 5 48 w.heap.size W5 A11 c11 (insI xs (z1, z2, z3, z4, z5)) := hF11.mono (by have := HBA.out.size; omega)
        have HF6 := hid hFz
        have HBW := hid hbw5
        clear hF11 hFz hb5 hbw5 HKEEP
        have hval := c_spec_l16Good q A11 (insI xs (z1, z2, z3, z4, z5)) c11 W5 HF6.out.rds (by rw [HINL.out]; omega)
        rw [HINL.out] at hval
        refine hval.mono ?_
        rintro e W7 ⟨rfl, hb7⟩
        have hc7 := cellOf hb7; have hf7 := frozOf hb7; have hz7 := sizeOf hb7; (try simp at hz7)
        cases hg2 : berV q (insI xs (z1, z2, z3, z4, z5))
        · have hV2 : addV q xs (z1, z2, z3, z4, z5) = ([], false) := by simp [addV, hg2]
          have HV2 := hid hV2
          clear hV2
          simp only [hg2]
          go_wp2_with (fail)
          go_ret2
          simp only [HV2.out]
          exact ⟨_, _, rfl, FreshA.new (by have := HBW.out.size; first | omega | (simp at *; omega)), Below.alloc (Below.trans HBW.out (Below.mono hb7 (by have := HBW.out.size; omega))) (by have := HBW.out.size; omega) _⟩
        have hV2 : addV q xs (z1, z2, z3, z4, z5) = (insI xs (z1, z2, z3, z4, z5), true) := by simp only [addV, hg, hg2, and_self, if_true]
        have HV2 := hid hV2
        clear hV2
        simp only [hg2]
        go_wp2_with (fail)
        go_ret2
        simp only [HV2.out, HINL.out]
        exact ⟨_, _, rfl, HF6.out.below hb7, Below.trans HBW.out (Below.mono hb7 (by have := HBW.out.size; omega))⟩

end Go.Proofs.Ytfipmalomhflgaa
namespace Go.Proofs.Ytfipmalomhflgaa
set_option linter.unusedSimpArgs false
set_option linter.unusedVariables false
open Go.RowKit

def lenOf : Value → Nat | .slice _ n _ => n | _ => 0
theorem FreshA.newq {α : Type} {cf : α → List Value} {sz : Nat} {T : TypeId} {B g : Nat} {w : World} (hg : w.heap.size = g) (hB : B ≤ g) : FreshA cf sz T B (w.alloc (.cells #[] T)) (some ⟨g, 0, none⟩) 0 ([] : List α) := by
  subst hg
  exact .inr ⟨w.heap.size, rfl, hB, #[], heap_alloc_new _ _, by simp, by simp, by unfold maxLen; omega, fun i x h => by simp at h⟩
theorem FreshA.newBox {q : Int × Int × Int × Int × Int} {T : TypeId} {B g : Nat} {w : World} (hg : w.heap.size = g) (hB : B ≤ g) : FreshA cBer 5 T B (w.alloc (.cells (cBer q).toArray T)) (some ⟨g, 0, none⟩) 1 [q] := by
  subst hg
  refine .inr ⟨w.heap.size, rfl, hB, (cBer q).toArray, heap_alloc_new _ _, by simp [cBer], by simp, by unfold maxLen; omega, ?_⟩
  intro i x h j v hv
  match i, h with
  | 0, h =>
    simp only [List.getElem?_cons_zero, Option.some.injEq] at h
    subst h
    simpa using hv
  | i + 1, h => simp at h
theorem OwnS.put5 {w : World} {g cap : Nat} {T : TypeId} {xs : List (Int × Int × Int × Int × Int)} {a b c d e : Int} (h : OwnS cBer 5 T w g cap xs) (h1 : 1 < xs.length) : OwnS cBer 5 T (((((w.setCell ⟨g, 5, none⟩ (.int .i64 a)).setCell ⟨g, 6, none⟩ (.int .i64 b)).setCell ⟨g, 7, none⟩ (.int .i64 c)).setCell ⟨g, 8, none⟩ (.int .i64 d)).setCell ⟨g, 9, none⟩ (.int .i64 e)) g cap (xs.set 1 (a, b, c, d, e)) :=
  OwnS.put (y := (a, b, c, d, e)) (k := 1) (fun _ => rfl) h h1
set_option maxRecDepth 100000 in
set_option maxHeartbeats 16000000 in
theorem c_berthing (b : Nat) (A : Option Addr) (cs : List Int) (cap : Nat) (m q : Int) (w : World) (hcu : CurS w b A cs cap m) (hby : Bytes cs) (hm : 0 ≤ m ∧ m ≤ 700000000) (hl : cs.length ≤ 1000000000) (hq : 0 ≤ q ∧ q ≤ 21) :
    Calls Try.prog 72 #[.pointer (some ⟨b, 0, none⟩), .int .i64 q] w fun e w' => ∃ (A' : Option Addr) (c' : Nat) (xs : List (Int × Int × Int × Int × Int)), e = .returned (.slice A' xs.length c') ∧ FreshA cBer 5 48 w.heap.size w' A' c' xs ∧ xs.length ≤ 12 ∧ CurS w' b A cs cap (m + 100) ∧ w.grownBy w' (some b) := by
  obtain ⟨i0, hI0, hI1, hI2, hI3⟩ := info_parts info_Ber
  have hlt0 := hcu.lt
  go_enter Try.func72, Try.ntmps72
  go_wp2_with (fail)
  refine calls_named ?_
  intro V53 hV
  have hkV53 : w.heap.size ≤ V53.heap.size := by rw [hV]; first | with_reducible exact Nat.le_refl _ | (simp [World.setCell]; done) | (simp; omega)
  have cu54 : CurS V53 b A cs cap (m) := by rw [hV]; (repeat' (first | with_reducible refine CurS.setc ?_ ?_ | with_reducible refine CurS.allo ?_ | with_reducible refine CurS.drw ?_ | with_reducible exact hcu | (dsimp only; omega) | (simp; done) | (simp; omega)))
  have gw55 : w.grownBy V53 (some b) := by rw [hV]; (repeat' (first | with_reducible exact World.grownBy.refl _ _ | fail | with_reducible refine grownA ?_ | with_reducible refine grownS ?_ ?_ | with_reducible refine grown_drew ?_ | (dsimp only; omega) | (simp; done) | omega))
  have hzgw55 := gw55.size
  have hlcu54 := cu54.lt
  have S56 : Hid (FreshA cBer 5 48 (w.heap.size) V53 ((some ⟨w.heap.size, 0, none⟩)) 0 (([] : List (Int × Int × Int × Int × Int)))) := hid (by rw [hV]; first | exact FreshA.newq rfl (Nat.le_refl _) | exact FreshA.below (FreshA.newq rfl (Nat.le_refl _)) (Below.drew (Below.refl _ _)))
  clear hV
  refine (c_pick b A cs cap (m) (8) _ cu54 hby (by omega) hl (by omega)).mono ?_
  rintro e W58 ⟨dx57, rfl, hdx57a, hdx57b, hcn, hg⟩
  have hkW58 := hg.size
  have R59 : Hid (FreshA cBer 5 48 (w.heap.size) W58 ((some ⟨w.heap.size, 0, none⟩)) 0 (([] : List (Int × Int × Int × Int × Int)))) := hid (FreshA.rowb S56.out hg (by omega))
  have cu60 : CurS W58 b A cs cap (m + 1) := hcn
  have gw61 : w.grownBy W58 (some b) := grown_trans gw55 hg
  have hzgw61 := gw61.size
  have hlcu60 := cu60.lt
  clear S56 cu54 gw55
  clear hg
  obtain ⟨j1, rfl⟩ : ∃ j : Nat, dx57 = j := ⟨dx57.toNat, by omega⟩
  go_wp2_with (fail)
  go_loopw [5, 6] (fun L i wr => ∃ (j : Nat) (A2 : Option Addr) (cp2 : Nat) (xs : List (Int × Int × Int × Int × Int)), L = .slice A2 xs.length cp2 ∧ i = .int .i64 j ∧ j ≤ 7 ∧ xs.length ≤ 10 ∧ FreshA cBer 5 48 w.heap.size wr A2 cp2 xs ∧ CurS wr b A cs cap (m + 60 - 6 * (j : Int)) ∧ w.grownBy wr (some b)) (fun _ i _ => (intOf i).toNat)
  case atStart =>
    exact ⟨j1, _, _, [], rfl, rfl, by omega, by simp, R59.out, CurS.mono cu60 (by omega), gw61⟩
  case round =>
    obtain ⟨j, A2, cp2, xs, rfl, rfl, hj7, hxl, hF, hcr, hgr⟩ := hrel
    have RF := hid hF
    clear hF
    have hgrz := hgr.size
    have hcrl := hcr.lt
    by_cases hj : j = 0
    rotate_left
    · go_wp2_with (fail)
      refine calls_named ?_
      intro V62 hV
      have hkV62 : wr.heap.size ≤ V62.heap.size := by rw [hV]; first | with_reducible exact Nat.le_refl _ | (simp [World.setCell]; done) | (simp; omega)
      have R63 : Hid (FreshA cBer 5 48 (w.heap.size) V62 A2 cp2 xs) := hid (by rw [hV]; (repeat' (first | with_reducible exact RF.out | with_reducible refine FreshA.set_at ?_ (by assumption) _ | with_reducible refine FreshA.set_low ?_ ?_ _ | with_reducible refine FreshA.below ?_ (Below.drew (Below.refl _ _)) | with_reducible refine FreshA.below ?_ (Below.alloc (Below.refl _ _) (Nat.le_refl _) _) | (dsimp only; omega) | (simp; done) | (simp; omega))))
      have cu64 : CurS V62 b A cs cap (m + 60 - 6 * (j : Int)) := by rw [hV]; (repeat' (first | with_reducible refine CurS.setc ?_ ?_ | with_reducible refine CurS.allo ?_ | with_reducible refine CurS.drw ?_ | with_reducible exact hcr | (dsimp only; omega) | (simp; done) | (simp; omega)))
      have gw65 : w.grownBy V62 (some b) := by rw [hV]; (repeat' (first | with_reducible exact World.grownBy.refl _ _ | with_reducible exact hgr | with_reducible refine grownA ?_ | with_reducible refine grownS ?_ ?_ | with_reducible refine grown_drew ?_ | (dsimp only; omega) | (simp; done) | omega))
      have hzgw65 := gw65.size
      have hlcu64 := cu64.lt
      clear RF hcr hgr
      refine (c_among b A cs cap (m + 60 - 6 * (j : Int)) _ ([0, 2, 5, 8, 10, 490] : List Int) _ (0) (490) _ cu64 hby (by omega) hl (by rw [hV]; exact Rds.of_lit (by simp) (by intro i x h; rcases i with _ | _ | _ | _ | _ | _ | i <;> simp at h ⊢ <;> first | exact h | omega)) (by simp) (by intro a ha; cases ha; simp; omega) (fun k hk => (show ∀ x ∈ ([0, 2, 5, 8, 10, 490] : List Int), 0 ≤ x ∧ x ≤ 490 by intro x hx; simp at hx; omega) _ (List.getElem_mem hk))).mono ?_
      rintro e W67 ⟨dx66, rfl, hdx66a, hdx66b, hcn, hg⟩
      clear hV
      have hkW67 := hg.size
      have R68 : Hid (FreshA cBer 5 48 (w.heap.size) W67 A2 cp2 xs) := hid (FreshA.rowb R63.out hg (by omega))
      have cu69 : CurS W67 b A cs cap (m + 60 - 6 * (j : Int) + 1) := hcn
      have gw70 : w.grownBy W67 (some b) := grown_trans gw65 hg
      have hzgw70 := gw70.size
      have hlcu69 := cu69.lt
      clear R63 cu64 gw65
      clear hg
      go_wp2_with (fail)
      refine calls_named ?_
      intro V71 hV
      have hkV71 : W67.heap.size ≤ V71.heap.size := by rw [hV]; first | with_reducible exact Nat.le_refl _ | (simp [World.setCell]; done) | (simp; omega)
      have R72 : Hid (FreshA cBer 5 48 (w.heap.size) V71 A2 cp2 xs) := hid (by rw [hV]; (repeat' (first | with_reducible exact R68.out | with_reducible refine FreshA.set_at ?_ (by assumption) _ | with_reducible refine FreshA.set_low ?_ ?_ _ | with_reducible refine FreshA.below ?_ (Below.drew (Below.refl _ _)) | with_reducible refine FreshA.below ?_ (Below.alloc (Below.refl _ _) (Nat.le_refl _) _) | (dsimp only; omega) | (simp; done) | (simp; omega))))
      have cu73 : CurS V71 b A cs cap (m + 60 - 6 * (j : Int) + 1) := by rw [hV]; (repeat' (first | with_reducible refine CurS.setc ?_ ?_ | with_reducible refine CurS.allo ?_ | with_reducible refine CurS.drw ?_ | with_reducible exact cu69 | (dsimp only; omega) | (simp; done) | (simp; omega)))
      have gw74 : w.grownBy V71 (some b) := by rw [hV]; (repeat' (first | with_reducible exact World.grownBy.refl _ _ | with_reducible exact gw70 | with_reducible refine grownA ?_ | with_reducible refine grownS ?_ ?_ | with_reducible refine grown_drew ?_ | (dsimp only; omega) | (simp; done) | omega))
      have hzgw74 := gw74.size
      have hlcu73 := cu73.lt
      clear R68 cu69 gw70
      clear hV
      refine (c_pick b A cs cap (m + 60 - 6 * (j : Int) + 1) (20) _ cu73 hby (by omega) hl (by omega)).mono ?_
      rintro e W76 ⟨dx75, rfl, hdx75a, hdx75b, hcn, hg⟩
      have hkW76 := hg.size
      have R77 : Hid (FreshA cBer 5 48 (w.heap.size) W76 A2 cp2 xs) := hid (FreshA.rowb R72.out hg (by omega))
      have cu78 : CurS W76 b A cs cap (m + 60 - 6 * (j : Int) + 1 + 1) := hcn
      have gw79 : w.grownBy W76 (some b) := grown_trans gw74 hg
      have hzgw79 := gw79.size
      have hlcu78 := cu78.lt
      clear R72 cu73 gw74
      clear hg
      go_wp2_with (fail)
      refine calls_named ?_
      intro V80 hV
      have hkV80 : W76.heap.size ≤ V80.heap.size := by rw [hV]; first | with_reducible exact Nat.le_refl _ | (simp [World.setCell]; done) | (simp; omega)
      have R81 : Hid (FreshA cBer 5 48 (w.heap.size) V80 A2 cp2 xs) := hid (by rw [hV]; (repeat' (first | with_reducible exact R77.out | with_reducible refine FreshA.set_at ?_ (by assumption) _ | with_reducible refine FreshA.set_low ?_ ?_ _ | with_reducible refine FreshA.below ?_ (Below.drew (Below.refl _ _)) | with_reducible refine FreshA.below ?_ (Below.alloc (Below.refl _ _) (Nat.le_refl _) _) | (dsimp only; omega) | (simp; done) | (simp; omega))))
      have cu82 : CurS V80 b A cs cap (m + 60 - 6 * (j : Int) + 1 + 1) := by rw [hV]; (repeat' (first | with_reducible refine CurS.setc ?_ ?_ | with_reducible refine CurS.allo ?_ | with_reducible refine CurS.drw ?_ | with_reducible exact cu78 | (dsimp only; omega) | (simp; done) | (simp; omega)))
      have gw83 : w.grownBy V80 (some b) := by rw [hV]; (repeat' (first | with_reducible exact World.grownBy.refl _ _ | with_reducible exact gw79 | with_reducible refine grownA ?_ | with_reducible refine grownS ?_ ?_ | with_reducible refine grown_drew ?_ | (dsimp only; omega) | (simp; done) | omega))
      have hzgw83 := gw83.size
      have hlcu82 := cu82.lt
      clear R77 cu78 gw79
      clear hV
      refine (c_pick b A cs cap (m + 60 - 6 * (j : Int) + 1 + 1) (4) _ cu82 hby (by omega) hl (by omega)).mono ?_
      rintro e W85 ⟨dx84, rfl, hdx84a, hdx84b, hcn, hg⟩
      have hkW85 := hg.size
      have R86 : Hid (FreshA cBer 5 48 (w.heap.size) W85 A2 cp2 xs) := hid (FreshA.rowb R81.out hg (by omega))
      have cu87 : CurS W85 b A cs cap (m + 60 - 6 * (j : Int) + 1 + 1 + 1) := hcn
      have gw88 : w.grownBy W85 (some b) := grown_trans gw83 hg
      have hzgw88 := gw88.size
      have hlcu87 := cu87.lt
      clear R81 cu82 gw83
      clear hg
      go_wp2_with (fail)
      refine calls_named ?_
      intro V89 hV
      have hkV89 : W85.heap.size ≤ V89.heap.size := by rw [hV]; first | with_reducible exact Nat.le_refl _ | (simp [World.setCell]; done) | (simp; omega)
      have R90 : Hid (FreshA cBer 5 48 (w.heap.size) V89 A2 cp2 xs) := hid (by rw [hV]; (repeat' (first | with_reducible exact R86.out | with_reducible refine FreshA.set_at ?_ (by assumption) _ | with_reducible refine FreshA.set_low ?_ ?_ _ | with_reducible refine FreshA.below ?_ (Below.drew (Below.refl _ _)) | with_reducible refine FreshA.below ?_ (Below.alloc (Below.refl _ _) (Nat.le_refl _) _) | (dsimp only; omega) | (simp; done) | (simp; omega))))
      have cu91 : CurS V89 b A cs cap (m + 60 - 6 * (j : Int) + 1 + 1 + 1) := by rw [hV]; (repeat' (first | with_reducible refine CurS.setc ?_ ?_ | with_reducible refine CurS.allo ?_ | with_reducible refine CurS.drw ?_ | with_reducible exact cu87 | (dsimp only; omega) | (simp; done) | (simp; omega)))
      have gw92 : w.grownBy V89 (some b) := by rw [hV]; (repeat' (first | with_reducible exact World.grownBy.refl _ _ | with_reducible exact gw88 | with_reducible refine grownA ?_ | with_reducible refine grownS ?_ ?_ | with_reducible refine grown_drew ?_ | (dsimp only; omega) | (simp; done) | omega))
      have hzgw92 := gw92.size
      have hlcu91 := cu91.lt
      clear R86 cu87 gw88
      refine (c_among b A cs cap (m + 60 - 6 * (j : Int) + 1 + 1 + 1) _ ([1, 3, 5, 10] : List Int) _ (1) (10) _ cu91 hby (by omega) hl (by rw [hV]; exact Rds.of_lit (by simp) (by intro i x h; rcases i with _ | _ | _ | _ | i <;> simp at h ⊢ <;> first | exact h | omega)) (by simp) (by intro a ha; cases ha; simp; omega) (fun k hk => (show ∀ x ∈ ([1, 3, 5, 10] : List Int), 1 ≤ x ∧ x ≤ 10 by intro x hx; simp at hx; omega) _ (List.getElem_mem hk))).mono ?_
      rintro e W94 ⟨dx93, rfl, hdx93a, hdx93b, hcn, hg⟩
      clear hV
      have hkW94 := hg.size
      have R95 : Hid (FreshA cBer 5 48 (w.heap.size) W94 A2 cp2 xs) := hid (FreshA.rowb R90.out hg (by omega))
      have cu96 : CurS W94 b A cs cap (m + 60 - 6 * (j : Int) + 1 + 1 + 1 + 1) := hcn
      have gw97 : w.grownBy W94 (some b) := grown_trans gw92 hg
      have hzgw97 := gw97.size
      have hlcu96 := cu96.lt
      clear R90 cu91 gw92
      clear hg
      have hhi := (R95.out).hi
      go_wp2_with (fail)
      refine calls_named ?_
      intro V98 hV
      have hkV98 : W94.heap.size ≤ V98.heap.size := by rw [hV]; first | with_reducible exact Nat.le_refl _ | (simp [World.setCell]; done) | (simp; omega)
      have R99 : Hid (FreshA cBer 5 48 (w.heap.size) V98 A2 cp2 xs) := hid (by rw [hV]; (repeat' (first | with_reducible exact R95.out | with_reducible refine FreshA.set_at ?_ (by assumption) _ | with_reducible refine FreshA.set_low ?_ ?_ _ | with_reducible refine FreshA.below ?_ (Below.drew (Below.refl _ _)) | with_reducible refine FreshA.below ?_ (Below.alloc (Below.refl _ _) (Nat.le_refl _) _) | (dsimp only; omega) | (simp; done) | (simp; omega))))
      have cu100 : CurS V98 b A cs cap (m + 60 - 6 * (j : Int) + 1 + 1 + 1 + 1) := by rw [hV]; (repeat' (first | with_reducible refine CurS.setc ?_ ?_ | with_reducible refine CurS.allo ?_ | with_reducible refine CurS.drw ?_ | with_reducible exact cu96 | (dsimp only; omega) | (simp; done) | (simp; omega)))
      have gw101 : w.grownBy V98 (some b) := by rw [hV]; (repeat' (first | with_reducible exact World.grownBy.refl _ _ | with_reducible exact gw97 | with_reducible refine grownA ?_ | with_reducible refine grownS ?_ ?_ | with_reducible refine grown_drew ?_ | (dsimp only; omega) | (simp; done) | omega))
      have hzgw101 := gw101.size
      have hlcu100 := cu100.lt
      clear R95 cu96 gw97
      have d102 : V98.cell? ⟨W94.heap.size, 0, none⟩ = some (.int .i64 (1 + dx75)) := by rw [hV]; first | (simp [go_sem, ↓IntWalk.iteOmega, *]; done) | (simp [go_sem, ↓IntWalk.iteOmega, *]; intros; omega)
      have d103 : V98.cell? ⟨W94.heap.size, 1, none⟩ = some (.int .i64 0) := by rw [hV]; first | (simp [go_sem, ↓IntWalk.iteOmega, *]; done) | (simp [go_sem, ↓IntWalk.iteOmega, *]; intros; omega)
      have d104 : V98.cell? ⟨W94.heap.size, 2, none⟩ = some (.int .i64 (1 + dx84)) := by rw [hV]; first | (simp [go_sem, ↓IntWalk.iteOmega, *]; done) | (simp [go_sem, ↓IntWalk.iteOmega, *]; intros; omega)
      have d105 : V98.cell? ⟨W94.heap.size, 3, none⟩ = some (.int .i64 dx66) := by rw [hV]; first | (simp [go_sem, ↓IntWalk.iteOmega, *]; done) | (simp [go_sem, ↓IntWalk.iteOmega, *]; intros; omega)
      have d106 : V98.cell? ⟨W94.heap.size, 4, none⟩ = some (.int .i64 (dx66 + dx93)) := by rw [hV]; first | (simp [go_sem, ↓IntWalk.iteOmega, *]; done) | (simp [go_sem, ↓IntWalk.iteOmega, *]; intros; omega)
      have e107 : ∀ o, V98.frozen? ⟨W94.heap.size, o, none⟩ = false := by rw [hV]; intro o; first | (simp [go_sem, ↓IntWalk.iteOmega, *]; done) | (simp [go_sem, ↓IntWalk.iteOmega, *]; intros; omega)
      have hTB : W94.heap.size < V98.heap.size := by rw [hV]; first | (simp; done) | (simp; omega)
      clear hV
      refine (c_spec_l1Most _ _ _).mono ?_
      rintro e W108 ⟨rfl, hb⟩
      have hkW108 := hb.size
      have c109 : W108.cell? ⟨W94.heap.size, 0, none⟩ = some (.int .i64 (1 + dx75)) := (hb.cell (p := ⟨W94.heap.size, 0, none⟩) (by show W94.heap.size < _; omega)).trans d102
      have c110 : W108.cell? ⟨W94.heap.size, 1, none⟩ = some (.int .i64 0) := (hb.cell (p := ⟨W94.heap.size, 1, none⟩) (by show W94.heap.size < _; omega)).trans d103
      have c111 : W108.cell? ⟨W94.heap.size, 2, none⟩ = some (.int .i64 (1 + dx84)) := (hb.cell (p := ⟨W94.heap.size, 2, none⟩) (by show W94.heap.size < _; omega)).trans d104
      have c112 : W108.cell? ⟨W94.heap.size, 3, none⟩ = some (.int .i64 dx66) := (hb.cell (p := ⟨W94.heap.size, 3, none⟩) (by show W94.heap.size < _; omega)).trans d105
      have c113 : W108.cell? ⟨W94.heap.size, 4, none⟩ = some (.int .i64 (dx66 + dx93)) := (hb.cell (p := ⟨W94.heap.size, 4, none⟩) (by show W94.heap.size < _; omega)).trans d106
      have z114 : ∀ o, W108.frozen? ⟨W94.heap.size, o, none⟩ = false := fun o => (hb.frozen (p := ⟨W94.heap.size, o, none⟩) (by show W94.heap.size < _; omega)).trans (e107 o)
      have R115 : Hid (FreshA cBer 5 48 (w.heap.size) W108 A2 cp2 xs) := hid (FreshA.below R99.out hb)
      have cu116 : CurS W108 b A cs cap (m + 60 - 6 * (j : Int) + 1 + 1 + 1 + 1) := CurS.below cu100 hb
      have gw117 : w.grownBy W108 (some b) := grown_trans gw101 (grown_of_below hb)
      have hzgw117 := gw117.size
      have hlcu116 := cu116.lt
      clear d102 d103 d104 d105 d106 e107 R99 cu100 gw101
      clear hb
      generalize htb : W94.heap.size = tb at *
      go_wp2_with (fail)
      refine calls_named ?_
      intro V118 hV
      have hkV118 : W108.heap.size ≤ V118.heap.size := by rw [hV]; first | with_reducible exact Nat.le_refl _ | (simp [World.setCell]; done) | (simp; omega)
      have c119 : V118.cell? ⟨tb, 0, none⟩ = some (.int .i64 (1 + dx75)) := by rw [hV]; first | ((repeat' (first | with_reducible exact c109 | with_reducible refine cellK_drew ?_ | with_reducible refine cellK_alloc ?_ | with_reducible refine cellK_set ?_ (by dsimp only; omega))); done) | (first | (simp [go_sem, ↓IntWalk.iteOmega, *]; done) | (simp [go_sem, ↓IntWalk.iteOmega, *]; intros; omega))
      have c120 : V118.cell? ⟨tb, 1, none⟩ = some (.int .i64 0) := by rw [hV]; first | ((repeat' (first | with_reducible exact c110 | with_reducible refine cellK_drew ?_ | with_reducible refine cellK_alloc ?_ | with_reducible refine cellK_set ?_ (by dsimp only; omega))); done) | (first | (simp [go_sem, ↓IntWalk.iteOmega, *]; done) | (simp [go_sem, ↓IntWalk.iteOmega, *]; intros; omega))
      have c121 : V118.cell? ⟨tb, 2, none⟩ = some (.int .i64 (1 + dx84)) := by rw [hV]; first | ((repeat' (first | with_reducible exact c111 | with_reducible refine cellK_drew ?_ | with_reducible refine cellK_alloc ?_ | with_reducible refine cellK_set ?_ (by dsimp only; omega))); done) | (first | (simp [go_sem, ↓IntWalk.iteOmega, *]; done) | (simp [go_sem, ↓IntWalk.iteOmega, *]; intros; omega))
      have c122 : V118.cell? ⟨tb, 3, none⟩ = some (.int .i64 dx66) := by rw [hV]; first | ((repeat' (first | with_reducible exact c112 | with_reducible refine cellK_drew ?_ | with_reducible refine cellK_alloc ?_ | with_reducible refine cellK_set ?_ (by dsimp only; omega))); done) | (first | (simp [go_sem, ↓IntWalk.iteOmega, *]; done) | (simp [go_sem, ↓IntWalk.iteOmega, *]; intros; omega))
      have c123 : V118.cell? ⟨tb, 4, none⟩ = some (.int .i64 (dx66 + dx93)) := by rw [hV]; first | ((repeat' (first | with_reducible exact c113 | with_reducible refine cellK_drew ?_ | with_reducible refine cellK_alloc ?_ | with_reducible refine cellK_set ?_ (by dsimp only; omega))); done) | (first | (simp [go_sem, ↓IntWalk.iteOmega, *]; done) | (simp [go_sem, ↓IntWalk.iteOmega, *]; intros; omega))
      have z124 : ∀ o, V118.frozen? ⟨tb, o, none⟩ = false := by rw [hV]; first | ((repeat' (first | with_reducible exact z114 | with_reducible refine frozK_drew ?_ | with_reducible refine frozK_alloc ?_ | with_reducible refine frozK_set ?_)); done) | (intro o; first | (simp [go_sem, ↓IntWalk.iteOmega, *]; done) | (simp [go_sem, ↓IntWalk.iteOmega, *]; intros; omega))
      have R125 : Hid (FreshA cBer 5 48 (w.heap.size) V118 A2 cp2 xs) := hid (by rw [hV]; (repeat' (first | with_reducible exact R115.out | with_reducible refine FreshA.set_at ?_ (by assumption) _ | with_reducible refine FreshA.set_low ?_ ?_ _ | with_reducible refine FreshA.below ?_ (Below.drew (Below.refl _ _)) | with_reducible refine FreshA.below ?_ (Below.alloc (Below.refl _ _) (Nat.le_refl _) _) | (dsimp only; omega) | (simp; done) | (simp; omega))))
      have cu126 : CurS V118 b A cs cap (m + 60 - 6 * (j : Int) + 1 + 1 + 1 + 1) := by rw [hV]; (repeat' (first | with_reducible refine CurS.setc ?_ ?_ | with_reducible refine CurS.allo ?_ | with_reducible refine CurS.drw ?_ | with_reducible exact cu116 | (dsimp only; omega) | (simp; done) | (simp; omega)))
      have gw127 : w.grownBy V118 (some b) := by rw [hV]; (repeat' (first | with_reducible exact World.grownBy.refl _ _ | with_reducible exact gw117 | with_reducible refine grownA ?_ | with_reducible refine grownS ?_ ?_ | with_reducible refine grown_drew ?_ | (dsimp only; omega) | (simp; done) | omega))
      have hzgw127 := gw127.size
      have hlcu126 := cu126.lt
      clear c109 c110 c111 c112 c113 z114 R115 cu116 gw117
      clear hV
      refine (c_pick b A cs cap (m + 60 - 6 * (j : Int) + 1 + 1 + 1 + 1) _ _ cu126 hby (by omega) hl (by omega)).mono ?_
      rintro e W129 ⟨dx128, rfl, hdx128a, hdx128b, hcn, hg⟩
      have hkW129 := hg.size
      have c130 : W129.cell? ⟨tb, 0, none⟩ = some (.int .i64 (1 + dx75)) := (cellRow hg (tb) 0).trans (by rw [if_pos ⟨by omega, by omega⟩]; exact c119)
      have c131 : W129.cell? ⟨tb, 1, none⟩ = some (.int .i64 0) := (cellRow hg (tb) 1).trans (by rw [if_pos ⟨by omega, by omega⟩]; exact c120)
      have c132 : W129.cell? ⟨tb, 2, none⟩ = some (.int .i64 (1 + dx84)) := (cellRow hg (tb) 2).trans (by rw [if_pos ⟨by omega, by omega⟩]; exact c121)
      have c133 : W129.cell? ⟨tb, 3, none⟩ = some (.int .i64 dx66) := (cellRow hg (tb) 3).trans (by rw [if_pos ⟨by omega, by omega⟩]; exact c122)
      have c134 : W129.cell? ⟨tb, 4, none⟩ = some (.int .i64 (dx66 + dx93)) := (cellRow hg (tb) 4).trans (by rw [if_pos ⟨by omega, by omega⟩]; exact c123)
      have z135 : ∀ o, W129.frozen? ⟨tb, o, none⟩ = false := fun o => (frozRow hg (tb) o).trans (by rw [if_pos ⟨by omega, by omega⟩]; exact z124 o)
      have R136 : Hid (FreshA cBer 5 48 (w.heap.size) W129 A2 cp2 xs) := hid (FreshA.rowb R125.out hg (by omega))
      have cu137 : CurS W129 b A cs cap (m + 60 - 6 * (j : Int) + 1 + 1 + 1 + 1 + 1) := hcn
      have gw138 : w.grownBy W129 (some b) := grown_trans gw127 hg
      have hzgw138 := gw138.size
      have hlcu137 := cu137.lt
      clear c119 c120 c121 c122 c123 z124 R125 cu126 gw127
      clear hg
      have hap : ∀ a, A2 = some a → a.block ≠ (⟨tb, 1, none⟩ : Addr).block := fun a ha => by have := hhi a ha; show a.block ≠ tb; omega
      go_wp2_with (fail)
      refine calls_named ?_
      intro V139 hV
      have hkV139 : W129.heap.size ≤ V139.heap.size := by rw [hV]; first | with_reducible exact Nat.le_refl _ | (simp [World.setCell]; done) | (simp; omega)
      have c140 : V139.cell? ⟨tb, 0, none⟩ = some (.int .i64 (1 + dx75)) := by rw [hV]; first | ((repeat' (first | with_reducible exact c130 | with_reducible refine cellK_drew ?_ | with_reducible refine cellK_alloc ?_ | with_reducible refine cellK_set ?_ (by dsimp only; omega))); done) | (first | (simp [go_sem, ↓IntWalk.iteOmega, *]; done) | (simp [go_sem, ↓IntWalk.iteOmega, *]; intros; omega))
      have c141 : V139.cell? ⟨tb, 2, none⟩ = some (.int .i64 (1 + dx84)) := by rw [hV]; first | ((repeat' (first | with_reducible exact c132 | with_reducible refine cellK_drew ?_ | with_reducible refine cellK_alloc ?_ | with_reducible refine cellK_set ?_ (by dsimp only; omega))); done) | (first | (simp [go_sem, ↓IntWalk.iteOmega, *]; done) | (simp [go_sem, ↓IntWalk.iteOmega, *]; intros; omega))
      have c142 : V139.cell? ⟨tb, 3, none⟩ = some (.int .i64 dx66) := by rw [hV]; first | ((repeat' (first | with_reducible exact c133 | with_reducible refine cellK_drew ?_ | with_reducible refine cellK_alloc ?_ | with_reducible refine cellK_set ?_ (by dsimp only; omega))); done) | (first | (simp [go_sem, ↓IntWalk.iteOmega, *]; done) | (simp [go_sem, ↓IntWalk.iteOmega, *]; intros; omega))
      have c143 : V139.cell? ⟨tb, 4, none⟩ = some (.int .i64 (dx66 + dx93)) := by rw [hV]; first | ((repeat' (first | with_reducible exact c134 | with_reducible refine cellK_drew ?_ | with_reducible refine cellK_alloc ?_ | with_reducible refine cellK_set ?_ (by dsimp only; omega))); done) | (first | (simp [go_sem, ↓IntWalk.iteOmega, *]; done) | (simp [go_sem, ↓IntWalk.iteOmega, *]; intros; omega))
      have z144 : ∀ o, V139.frozen? ⟨tb, o, none⟩ = false := by rw [hV]; first | ((repeat' (first | with_reducible exact z135 | with_reducible refine frozK_drew ?_ | with_reducible refine frozK_alloc ?_ | with_reducible refine frozK_set ?_)); done) | (intro o; first | (simp [go_sem, ↓IntWalk.iteOmega, *]; done) | (simp [go_sem, ↓IntWalk.iteOmega, *]; intros; omega))
      have R145 : Hid (FreshA cBer 5 48 (w.heap.size) V139 A2 cp2 xs) := hid (by rw [hV]; (repeat' (first | with_reducible exact R136.out | with_reducible refine FreshA.set_at ?_ (by assumption) _ | with_reducible refine FreshA.set_low ?_ ?_ _ | with_reducible refine FreshA.below ?_ (Below.drew (Below.refl _ _)) | with_reducible refine FreshA.below ?_ (Below.alloc (Below.refl _ _) (Nat.le_refl _) _) | (dsimp only; omega) | (simp; done) | (simp; omega))))
      have cu146 : CurS V139 b A cs cap (m + 60 - 6 * (j : Int) + 1 + 1 + 1 + 1 + 1) := by rw [hV]; (repeat' (first | with_reducible refine CurS.setc ?_ ?_ | with_reducible refine CurS.allo ?_ | with_reducible refine CurS.drw ?_ | with_reducible exact cu137 | (dsimp only; omega) | (simp; done) | (simp; omega)))
      have gw147 : w.grownBy V139 (some b) := by rw [hV]; (repeat' (first | with_reducible exact World.grownBy.refl _ _ | with_reducible exact gw138 | with_reducible refine grownA ?_ | with_reducible refine grownS ?_ ?_ | with_reducible refine grown_drew ?_ | (dsimp only; omega) | (simp; done) | omega))
      have hzgw147 := gw147.size
      have hlcu146 := cu146.lt
      clear c130 c132 c133 c134 z135 R136 cu137 gw138
      clear hV
      have hal := addV_len q xs (1 + dx75, dx128, 1 + dx84, dx66, dx66 + dx93)
      obtain ⟨L, ok, hAV⟩ : ∃ L ok, addV q xs (1 + dx75, dx128, 1 + dx84, dx66, dx66 + dx93) = (L, ok) := ⟨_, _, rfl⟩
      have hAB := c_spec_AddBerth q A2 xs cp2 (1 + dx75) dx128 (1 + dx84) dx66 (dx66 + dx93) V139 (R145.out).rds (by omega) (R145.out).capLe
      simp only [hAV] at hAB hal
      clear hAV
      refine (hAB).mono ?_
      rintro e W148 ⟨A9, c9, rfl, hF9, hb⟩
      have hkW148 := hb.size
      have c149 : W148.cell? ⟨tb, 0, none⟩ = some (.int .i64 (1 + dx75)) := (hb.cell (p := ⟨tb, 0, none⟩) (by show tb < _; omega)).trans c140
      have c150 : W148.cell? ⟨tb, 2, none⟩ = some (.int .i64 (1 + dx84)) := (hb.cell (p := ⟨tb, 2, none⟩) (by show tb < _; omega)).trans c141
      have c151 : W148.cell? ⟨tb, 3, none⟩ = some (.int .i64 dx66) := (hb.cell (p := ⟨tb, 3, none⟩) (by show tb < _; omega)).trans c142
      have c152 : W148.cell? ⟨tb, 4, none⟩ = some (.int .i64 (dx66 + dx93)) := (hb.cell (p := ⟨tb, 4, none⟩) (by show tb < _; omega)).trans c143
      have z153 : ∀ o, W148.frozen? ⟨tb, o, none⟩ = false := fun o => (hb.frozen (p := ⟨tb, o, none⟩) (by show tb < _; omega)).trans (z144 o)
      have R154 : Hid (FreshA cBer 5 48 (w.heap.size) W148 A2 cp2 xs) := hid (FreshA.below R145.out hb)
      have cu155 : CurS W148 b A cs cap (m + 60 - 6 * (j : Int) + 1 + 1 + 1 + 1 + 1) := CurS.below cu146 hb
      have gw156 : w.grownBy W148 (some b) := grown_trans gw147 (grown_of_below hb)
      have hzgw156 := gw156.size
      have hlcu155 := cu155.lt
      clear c140 c141 c142 c143 z144 R145 cu146 gw147
      clear hb
      have S157 : Hid (FreshA cBer 5 48 (V139.heap.size) W148 A9 c9 L) := hid (hF9)
      clear hF9 hAB
      cases ok
      · go_wp2_with (fail)
        go_roundw
        case rel =>
          refine ⟨j - 1, A2, cp2, xs, rfl, by first | rfl | go_num | (congr 1; omega), by omega, by omega, ?_, ?_, ?_⟩
          · (repeat' (first | with_reducible exact (FreshA.mono R154.out (by omega)) | with_reducible refine FreshA.set_at ?_ (by assumption) _ | with_reducible refine FreshA.set_low ?_ ?_ _ | with_reducible refine FreshA.below ?_ (Below.drew (Below.refl _ _)) | with_reducible refine FreshA.below ?_ (Below.alloc (Below.refl _ _) (Nat.le_refl _) _) | (dsimp only; omega) | (simp; done) | (simp; omega)))
          · refine CurS.mono ?_ (m := m + 60 - 6 * (j : Int) + 1 + 1 + 1 + 1 + 1) (by first | omega | (simp; omega))
            (repeat' (first | with_reducible refine CurS.setc ?_ ?_ | with_reducible refine CurS.allo ?_ | with_reducible refine CurS.drw ?_ | with_reducible exact cu155 | (dsimp only; omega) | (simp; done) | (simp; omega)))
          · (repeat' (first | with_reducible exact World.grownBy.refl _ _ | with_reducible exact gw156 | with_reducible refine grownA ?_ | with_reducible refine grownS ?_ ?_ | with_reducible refine grown_drew ?_ | (dsimp only; omega) | (simp; done) | omega))
        case measure => simp [intOf]; omega
      go_wp2_with (fail)
      go_roundw
      case rel =>
        refine ⟨j - 1, A9, c9, L, rfl, by first | rfl | go_num | (congr 1; omega), by omega, by omega, ?_, ?_, ?_⟩
        · (repeat' (first | with_reducible exact (FreshA.mono S157.out (by omega)) | with_reducible refine FreshA.set_at ?_ (by assumption) _ | with_reducible refine FreshA.set_low ?_ ?_ _ | with_reducible refine FreshA.below ?_ (Below.drew (Below.refl _ _)) | with_reducible refine FreshA.below ?_ (Below.alloc (Below.refl _ _) (Nat.le_refl _) _) | (dsimp only; omega) | (simp; done) | (simp; omega)))
        · refine CurS.mono ?_ (m := m + 60 - 6 * (j : Int) + 1 + 1 + 1 + 1 + 1) (by first | omega | (simp; omega))
          (repeat' (first | with_reducible refine CurS.setc ?_ ?_ | with_reducible refine CurS.allo ?_ | with_reducible refine CurS.drw ?_ | with_reducible exact cu155 | (dsimp only; omega) | (simp; done) | (simp; omega)))
        · (repeat' (first | with_reducible exact World.grownBy.refl _ _ | with_reducible exact gw156 | with_reducible refine grownA ?_ | with_reducible refine grownS ?_ ?_ | with_reducible refine grown_drew ?_ | (dsimp only; omega) | (simp; done) | omega))
      case measure => simp [intOf]; omega
    subst hj
    have hcs : CurS wr b A cs cap (m + 60) := CurS.mono hcr (by omega)
    go_wp2_with (fail)
    refine calls_named ?_
    intro V158 hV
    have hkV158 : wr.heap.size ≤ V158.heap.size := by rw [hV]; first | with_reducible exact Nat.le_refl _ | (simp [World.setCell]; done) | (simp; omega)
    have R159 : Hid (FreshA cBer 5 48 (w.heap.size) V158 A2 cp2 xs) := hid (by rw [hV]; (repeat' (first | with_reducible exact RF.out | with_reducible refine FreshA.set_at ?_ (by assumption) _ | with_reducible refine FreshA.set_low ?_ ?_ _ | with_reducible refine FreshA.below ?_ (Below.drew (Below.refl _ _)) | with_reducible refine FreshA.below ?_ (Below.alloc (Below.refl _ _) (Nat.le_refl _) _) | (dsimp only; omega) | (simp; done) | (simp; omega))))
    have cu160 : CurS V158 b A cs cap (m + 60) := by rw [hV]; (repeat' (first | with_reducible refine CurS.setc ?_ ?_ | with_reducible refine CurS.allo ?_ | with_reducible refine CurS.drw ?_ | with_reducible exact hcs | (dsimp only; omega) | (simp; done) | (simp; omega)))
    have gw161 : w.grownBy V158 (some b) := by rw [hV]; (repeat' (first | with_reducible exact World.grownBy.refl _ _ | with_reducible exact hgr | with_reducible refine grownA ?_ | with_reducible refine grownS ?_ ?_ | with_reducible refine grown_drew ?_ | (dsimp only; omega) | (simp; done) | omega))
    have hzgw161 := gw161.size
    have hlcu160 := cu160.lt
    clear RF hcs hgr
    clear hV
    refine (c_pick b A cs cap (m + 60) (30) _ cu160 hby (by omega) hl (by omega)).mono ?_
    rintro e W163 ⟨dx162, rfl, hdx162a, hdx162b, hcn, hg⟩
    have hkW163 := hg.size
    have R164 : Hid (FreshA cBer 5 48 (w.heap.size) W163 A2 cp2 xs) := hid (FreshA.rowb R159.out hg (by omega))
    have cu165 : CurS W163 b A cs cap (m + 60 + 1) := hcn
    have gw166 : w.grownBy W163 (some b) := grown_trans gw161 hg
    have hzgw166 := gw166.size
    have hlcu165 := cu165.lt
    clear R159 cu160 gw161
    clear hg
    by_cases hk0 : dx162 = 0
    · subst hk0
      go_wp2_with (fail)
      refine calls_named ?_
      intro V167 hV
      have hkV167 : W163.heap.size ≤ V167.heap.size := by rw [hV]; first | with_reducible exact Nat.le_refl _ | (simp [World.setCell]; done) | (simp; omega)
      have R168 : Hid (FreshA cBer 5 48 (w.heap.size) V167 A2 cp2 xs) := hid (by rw [hV]; (repeat' (first | with_reducible exact R164.out | with_reducible refine FreshA.set_at ?_ (by assumption) _ | with_reducible refine FreshA.set_low ?_ ?_ _ | with_reducible refine FreshA.below ?_ (Below.drew (Below.refl _ _)) | with_reducible refine FreshA.below ?_ (Below.alloc (Below.refl _ _) (Nat.le_refl _) _) | (dsimp only; omega) | (simp; done) | (simp; omega))))
      have cu169 : CurS V167 b A cs cap (m + 60 + 1) := by rw [hV]; (repeat' (first | with_reducible refine CurS.setc ?_ ?_ | with_reducible refine CurS.allo ?_ | with_reducible refine CurS.drw ?_ | with_reducible exact cu165 | (dsimp only; omega) | (simp; done) | (simp; omega)))
      have gw170 : w.grownBy V167 (some b) := by rw [hV]; (repeat' (first | with_reducible exact World.grownBy.refl _ _ | with_reducible exact gw166 | with_reducible refine grownA ?_ | with_reducible refine grownS ?_ ?_ | with_reducible refine grown_drew ?_ | (dsimp only; omega) | (simp; done) | omega))
      have hzgw170 := gw170.size
      have hlcu169 := cu169.lt
      clear R164 cu165 gw166
      refine (c_among b A cs cap (m + 60 + 1) _ ([-1, q, 0] : List Int) _ (-1) (21) _ cu169 hby (by omega) hl (by rw [hV]; exact Rds.of_lit (by simp) (by intro i x h; rcases i with _ | _ | _ | i <;> simp at h ⊢ <;> first | exact h | omega)) (by simp) (by intro a ha; cases ha; simp; omega) (fun k hk => (show ∀ x ∈ ([-1, q, 0] : List Int), -1 ≤ x ∧ x ≤ 21 by intro x hx; simp at hx; omega) _ (List.getElem_mem hk))).mono ?_
      rintro e W172 ⟨dx171, rfl, hdx171a, hdx171b, hcn, hg⟩
      clear hV
      have hkW172 := hg.size
      have R173 : Hid (FreshA cBer 5 48 (w.heap.size) W172 A2 cp2 xs) := hid (FreshA.rowb R168.out hg (by omega))
      have cu174 : CurS W172 b A cs cap (m + 60 + 1 + 1) := hcn
      have gw175 : w.grownBy W172 (some b) := grown_trans gw170 hg
      have hzgw175 := gw175.size
      have hlcu174 := cu174.lt
      clear R168 cu169 gw170
      clear hg
      go_wp2_with (fail)
      refine calls_named ?_
      intro V176 hV
      have hkV176 : W172.heap.size ≤ V176.heap.size := by rw [hV]; first | with_reducible exact Nat.le_refl _ | (simp [World.setCell]; done) | (simp; omega)
      have R177 : Hid (FreshA cBer 5 48 (w.heap.size) V176 A2 cp2 xs) := hid (by rw [hV]; (repeat' (first | with_reducible exact R173.out | with_reducible refine FreshA.set_at ?_ (by assumption) _ | with_reducible refine FreshA.set_low ?_ ?_ _ | with_reducible refine FreshA.below ?_ (Below.drew (Below.refl _ _)) | with_reducible refine FreshA.below ?_ (Below.alloc (Below.refl _ _) (Nat.le_refl _) _) | (dsimp only; omega) | (simp; done) | (simp; omega))))
      have cu178 : CurS V176 b A cs cap (m + 60 + 1 + 1) := by rw [hV]; (repeat' (first | with_reducible refine CurS.setc ?_ ?_ | with_reducible refine CurS.allo ?_ | with_reducible refine CurS.drw ?_ | with_reducible exact cu174 | (dsimp only; omega) | (simp; done) | (simp; omega)))
      have gw179 : w.grownBy V176 (some b) := by rw [hV]; (repeat' (first | with_reducible exact World.grownBy.refl _ _ | with_reducible exact gw175 | with_reducible refine grownA ?_ | with_reducible refine grownS ?_ ?_ | with_reducible refine grown_drew ?_ | (dsimp only; omega) | (simp; done) | omega))
      have hzgw179 := gw179.size
      have hlcu178 := cu178.lt
      clear R173 cu174 gw175
      refine (c_among b A cs cap (m + 60 + 1 + 1) _ ([0, 1, q + 1] : List Int) _ (0) (22) _ cu178 hby (by omega) hl (by rw [hV]; exact Rds.of_lit (by simp) (by intro i x h; rcases i with _ | _ | _ | i <;> simp at h ⊢ <;> first | exact h | omega)) (by simp) (by intro a ha; cases ha; simp; omega) (fun k hk => (show ∀ x ∈ ([0, 1, q + 1] : List Int), 0 ≤ x ∧ x ≤ 22 by intro x hx; simp at hx; omega) _ (List.getElem_mem hk))).mono ?_
      rintro e W181 ⟨dx180, rfl, hdx180a, hdx180b, hcn, hg⟩
      clear hV
      have hkW181 := hg.size
      have R182 : Hid (FreshA cBer 5 48 (w.heap.size) W181 A2 cp2 xs) := hid (FreshA.rowb R177.out hg (by omega))
      have cu183 : CurS W181 b A cs cap (m + 60 + 1 + 1 + 1) := hcn
      have gw184 : w.grownBy W181 (some b) := grown_trans gw179 hg
      have hzgw184 := gw184.size
      have hlcu183 := cu183.lt
      clear R177 cu178 gw179
      clear hg
      go_wp2_with (fail)
      refine calls_named ?_
      intro V185 hV
      have hkV185 : W181.heap.size ≤ V185.heap.size := by rw [hV]; first | with_reducible exact Nat.le_refl _ | (simp [World.setCell]; done) | (simp; omega)
      have R186 : Hid (FreshA cBer 5 48 (w.heap.size) V185 A2 cp2 xs) := hid (by rw [hV]; (repeat' (first | with_reducible exact R182.out | with_reducible refine FreshA.set_at ?_ (by assumption) _ | with_reducible refine FreshA.set_low ?_ ?_ _ | with_reducible refine FreshA.below ?_ (Below.drew (Below.refl _ _)) | with_reducible refine FreshA.below ?_ (Below.alloc (Below.refl _ _) (Nat.le_refl _) _) | (dsimp only; omega) | (simp; done) | (simp; omega))))
      have cu187 : CurS V185 b A cs cap (m + 60 + 1 + 1 + 1) := by rw [hV]; (repeat' (first | with_reducible refine CurS.setc ?_ ?_ | with_reducible refine CurS.allo ?_ | with_reducible refine CurS.drw ?_ | with_reducible exact cu183 | (dsimp only; omega) | (simp; done) | (simp; omega)))
      have gw188 : w.grownBy V185 (some b) := by rw [hV]; (repeat' (first | with_reducible exact World.grownBy.refl _ _ | with_reducible exact gw184 | with_reducible refine grownA ?_ | with_reducible refine grownS ?_ ?_ | with_reducible refine grown_drew ?_ | (dsimp only; omega) | (simp; done) | omega))
      have hzgw188 := gw188.size
      have hlcu187 := cu187.lt
      clear R182 cu183 gw184
      refine (c_among b A cs cap (m + 60 + 1 + 1 + 1) _ ([-1, 3] : List Int) _ (-1) (3) _ cu187 hby (by omega) hl (by rw [hV]; exact Rds.of_lit (by simp) (by intro i x h; rcases i with _ | _ | i <;> simp at h ⊢ <;> first | exact h | omega)) (by simp) (by intro a ha; cases ha; simp; omega) (fun k hk => (show ∀ x ∈ ([-1, 3] : List Int), -1 ≤ x ∧ x ≤ 3 by intro x hx; simp at hx; omega) _ (List.getElem_mem hk))).mono ?_
      rintro e W190 ⟨dx189, rfl, hdx189a, hdx189b, hcn, hg⟩
      clear hV
      have hkW190 := hg.size
      have R191 : Hid (FreshA cBer 5 48 (w.heap.size) W190 A2 cp2 xs) := hid (FreshA.rowb R186.out hg (by omega))
      have cu192 : CurS W190 b A cs cap (m + 60 + 1 + 1 + 1 + 1) := hcn
      have gw193 : w.grownBy W190 (some b) := grown_trans gw188 hg
      have hzgw193 := gw193.size
      have hlcu192 := cu192.lt
      clear R186 cu187 gw188
      clear hg
      go_wp2_with (fail)
      refine calls_named ?_
      intro V194 hV
      have hkV194 : W190.heap.size ≤ V194.heap.size := by rw [hV]; first | with_reducible exact Nat.le_refl _ | (simp [World.setCell]; done) | (simp; omega)
      have R195 : Hid (FreshA cBer 5 48 (w.heap.size) V194 A2 cp2 xs) := hid (by rw [hV]; (repeat' (first | with_reducible exact R191.out | with_reducible refine FreshA.set_at ?_ (by assumption) _ | with_reducible refine FreshA.set_low ?_ ?_ _ | with_reducible refine FreshA.below ?_ (Below.drew (Below.refl _ _)) | with_reducible refine FreshA.below ?_ (Below.alloc (Below.refl _ _) (Nat.le_refl _) _) | (dsimp only; omega) | (simp; done) | (simp; omega))))
      have cu196 : CurS V194 b A cs cap (m + 60 + 1 + 1 + 1 + 1) := by rw [hV]; (repeat' (first | with_reducible refine CurS.setc ?_ ?_ | with_reducible refine CurS.allo ?_ | with_reducible refine CurS.drw ?_ | with_reducible exact cu192 | (dsimp only; omega) | (simp; done) | (simp; omega)))
      have gw197 : w.grownBy V194 (some b) := by rw [hV]; (repeat' (first | with_reducible exact World.grownBy.refl _ _ | with_reducible exact gw193 | with_reducible refine grownA ?_ | with_reducible refine grownS ?_ ?_ | with_reducible refine grown_drew ?_ | (dsimp only; omega) | (simp; done) | omega))
      have hzgw197 := gw197.size
      have hlcu196 := cu196.lt
      clear R191 cu192 gw193
      refine (c_among b A cs cap (m + 60 + 1 + 1 + 1 + 1) _ ([3, 4, 501] : List Int) _ (3) (501) _ cu196 hby (by omega) hl (by rw [hV]; exact Rds.of_lit (by simp) (by intro i x h; rcases i with _ | _ | _ | i <;> simp at h ⊢ <;> first | exact h | omega)) (by simp) (by intro a ha; cases ha; simp; omega) (fun k hk => (show ∀ x ∈ ([3, 4, 501] : List Int), 3 ≤ x ∧ x ≤ 501 by intro x hx; simp at hx; omega) _ (List.getElem_mem hk))).mono ?_
      rintro e W199 ⟨dx198, rfl, hdx198a, hdx198b, hcn, hg⟩
      clear hV
      have hkW199 := hg.size
      have R200 : Hid (FreshA cBer 5 48 (w.heap.size) W199 A2 cp2 xs) := hid (FreshA.rowb R195.out hg (by omega))
      have cu201 : CurS W199 b A cs cap (m + 60 + 1 + 1 + 1 + 1 + 1) := hcn
      have gw202 : w.grownBy W199 (some b) := grown_trans gw197 hg
      have hzgw202 := gw202.size
      have hlcu201 := cu201.lt
      clear R195 cu196 gw197
      clear hg
      go_wp2_with (at_builtin; refine wlist_named ?_)
      intro V203 hV
      have hkV203 : W199.heap.size ≤ V203.heap.size := by rw [hV]; first | with_reducible exact Nat.le_refl _ | (simp [World.setCell]; done) | (simp; omega)
      have R204 : Hid (FreshA cBer 5 48 (w.heap.size) V203 A2 cp2 xs) := hid (by rw [hV]; (repeat' (first | with_reducible exact R200.out | with_reducible refine FreshA.set_at ?_ (by assumption) _ | with_reducible refine FreshA.set_low ?_ ?_ _ | with_reducible refine FreshA.below ?_ (Below.drew (Below.refl _ _)) | with_reducible refine FreshA.below ?_ (Below.alloc (Below.refl _ _) (Nat.le_refl _) _) | (dsimp only; omega) | (simp; done) | (simp; omega))))
      have cu205 : CurS V203 b A cs cap (m + 60 + 1 + 1 + 1 + 1 + 1) := by rw [hV]; (repeat' (first | with_reducible refine CurS.setc ?_ ?_ | with_reducible refine CurS.allo ?_ | with_reducible refine CurS.drw ?_ | with_reducible exact cu201 | (dsimp only; omega) | (simp; done) | (simp; omega)))
      have gw206 : w.grownBy V203 (some b) := by rw [hV]; (repeat' (first | with_reducible exact World.grownBy.refl _ _ | with_reducible exact gw202 | with_reducible refine grownA ?_ | with_reducible refine grownS ?_ ?_ | with_reducible refine grown_drew ?_ | (dsimp only; omega) | (simp; done) | omega))
      have hzgw206 := gw206.size
      have hlcu205 := cu205.lt
      clear R200 cu201 gw202
      refine wpList_pushesR (xs := xs) rfl (.tmp 58) (.tmp 75) 25 rfl 48 i0 _ 40 Try.underlying25 hI0 hI1 hI2 hI3 rfl (by decide) (fun _ => rfl) one_Ber _ rfl rfl R204.out [(50, dx171, dx180, dx189, dx198)] 1 rfl _ _ rfl (by rw [hV]; exact Rds.ofBox (by first | exact heap_alloc_new _ _ | exact heapDrewAt (heap_alloc_new _ _))) (by unfold maxLen; omega) (by first | omega | (simp; omega)) (by omega) ?_
      intro A5 cp5 W5 hF3 hg3 hat3
      clear hV
      have hkW5 := hg3.size
      have hlo := R204.out.lo
      have R207 : Hid (FreshA cBer 5 48 (w.heap.size) W5 A5 cp5 (xs ++ [(50, dx171, dx180, dx189, dx198)])) := hid (hF3)
      have cu208 : CurS W5 b A cs cap (m + 60 + 1 + 1 + 1 + 1 + 1) := CurS.other cu205 hg3 hlo (by omega)
      have gw209 : w.grownBy W5 (some b) := grown_other gw206 hg3 (hlo.mono (by omega))
      have hzgw209 := gw209.size
      have hlcu208 := cu208.lt
      clear R204 cu205 gw206
      clear hlo
      clear hF3 hg3 hat3
      have hl5 : (xs ++ [(50, dx171, dx180, dx189, dx198)]).length = xs.length + 1 := by simp
      go_wp2_with (fail)
      refine post_named ?_
      intro V210 hV
      have hkV210 : W5.heap.size ≤ V210.heap.size := by rw [hV]; first | with_reducible exact Nat.le_refl _ | (simp [World.setCell]; done) | (simp; omega)
      have R211 : Hid (FreshA cBer 5 48 (w.heap.size) V210 A5 cp5 (xs ++ [(50, dx171, dx180, dx189, dx198)])) := hid (by rw [hV]; (repeat' (first | with_reducible exact R207.out | with_reducible refine FreshA.set_at ?_ (by assumption) _ | with_reducible refine FreshA.set_low ?_ ?_ _ | with_reducible refine FreshA.below ?_ (Below.drew (Below.refl _ _)) | with_reducible refine FreshA.below ?_ (Below.alloc (Below.refl _ _) (Nat.le_refl _) _) | (dsimp only; omega) | (simp; done) | (simp; omega))))
      have cu212 : CurS V210 b A cs cap (m + 60 + 1 + 1 + 1 + 1 + 1) := by rw [hV]; (repeat' (first | with_reducible refine CurS.setc ?_ ?_ | with_reducible refine CurS.allo ?_ | with_reducible refine CurS.drw ?_ | with_reducible exact cu208 | (dsimp only; omega) | (simp; done) | (simp; omega)))
      have gw213 : w.grownBy V210 (some b) := by rw [hV]; (repeat' (first | with_reducible exact World.grownBy.refl _ _ | with_reducible exact gw209 | with_reducible refine grownA ?_ | with_reducible refine grownS ?_ ?_ | with_reducible refine grown_drew ?_ | (dsimp only; omega) | (simp; done) | omega))
      have hzgw213 := gw213.size
      have hlcu212 := cu212.lt
      clear R207 cu208 gw209
      clear hV
      refine bodyPost_ret (v := .slice A5 ((xs ++ [(50, dx171, dx180, dx189, dx198)])).length cp5) ?_ rfl ⟨A5, cp5, ((xs ++ [(50, dx171, dx180, dx189, dx198)])), rfl, FreshA.mono R211.out (by omega), by first | omega | (simp; omega), CurS.mono cu212 (by omega), gw213⟩
      simp [results, Try.results72, go_sem]
    by_cases hk1 : dx162 = 1
    · subst hk1
      go_wp2_with (fail)
      go_loopw [5, 11] (fun L n wr => ∃ (A2 : Option Addr) (cp2 : Nat) (xs : List (Int × Int × Int × Int × Int)), L = .slice A2 xs.length cp2 ∧ n = .int .i64 (xs.length : Int) ∧ xs.length ≤ 11 ∧ FreshA cBer 5 48 w.heap.size wr A2 cp2 xs ∧ CurS wr b A cs cap (m + 61 + (xs.length : Int)) ∧ w.grownBy wr (some b)) (fun L _ _ => 14 - lenOf L)
      case atStart =>
        refine ⟨_, _, [], rfl, rfl, by simp, ?_, ?_, ?_⟩
        · exact FreshA.newq rfl (by first | omega | (simp; done) | (simp; omega))
        · refine CurS.mono ?_ (m := m + 60 + 1) (by first | omega | (simp; omega))
          (repeat' (first | with_reducible refine CurS.setc ?_ ?_ | with_reducible refine CurS.allo ?_ | with_reducible refine CurS.drw ?_ | with_reducible exact cu165 | (dsimp only; omega) | (simp; done) | (simp; omega)))
        · (repeat' (first | with_reducible exact World.grownBy.refl _ _ | with_reducible exact gw166 | with_reducible refine grownA ?_ | with_reducible refine grownS ?_ ?_ | with_reducible refine grown_drew ?_ | (dsimp only; omega) | (simp; done) | omega))
      case round =>
        obtain ⟨A2, cp2, xs, rfl, rfl, hx7, hF, hcr, hgr⟩ := hrel
        have RF := hid hF
        clear hF
        have hgrz := hgr.size
        have hcrl := hcr.lt
        go_wp2_with (fail)
        refine calls_named ?_
        intro V214 hV
        have hkV214 : wr.heap.size ≤ V214.heap.size := by rw [hV]; first | with_reducible exact Nat.le_refl _ | (simp [World.setCell]; done) | (simp; omega)
        have R215 : Hid (FreshA cBer 5 48 (w.heap.size) V214 A2 cp2 xs) := hid (by rw [hV]; (repeat' (first | with_reducible exact RF.out | with_reducible refine FreshA.set_at ?_ (by assumption) _ | with_reducible refine FreshA.set_low ?_ ?_ _ | with_reducible refine FreshA.below ?_ (Below.drew (Below.refl _ _)) | with_reducible refine FreshA.below ?_ (Below.alloc (Below.refl _ _) (Nat.le_refl _) _) | (dsimp only; omega) | (simp; done) | (simp; omega))))
        have cu216 : CurS V214 b A cs cap (m + 61 + (xs.length : Int)) := by rw [hV]; (repeat' (first | with_reducible refine CurS.setc ?_ ?_ | with_reducible refine CurS.allo ?_ | with_reducible refine CurS.drw ?_ | with_reducible exact hcr | (dsimp only; omega) | (simp; done) | (simp; omega)))
        have gw217 : w.grownBy V214 (some b) := by rw [hV]; (repeat' (first | with_reducible exact World.grownBy.refl _ _ | with_reducible exact hgr | with_reducible refine grownA ?_ | with_reducible refine grownS ?_ ?_ | with_reducible refine grown_drew ?_ | (dsimp only; omega) | (simp; done) | omega))
        have hzgw217 := gw217.size
        have hlcu216 := cu216.lt
        clear RF hcr hgr
        clear hV
        refine (c_pick b A cs cap (m + 61 + (xs.length : Int)) (2) _ cu216 hby (by omega) hl (by omega)).mono ?_
        rintro e W219 ⟨dx218, rfl, hdx218a, hdx218b, hcn, hg⟩
        have hkW219 := hg.size
        have R220 : Hid (FreshA cBer 5 48 (w.heap.size) W219 A2 cp2 xs) := hid (FreshA.rowb R215.out hg (by omega))
        have cu221 : CurS W219 b A cs cap (m + 61 + (xs.length : Int) + 1) := hcn
        have gw222 : w.grownBy W219 (some b) := grown_trans gw217 hg
        have hzgw222 := gw222.size
        have hlcu221 := cu221.lt
        clear R215 cu216 gw217
        clear hg
        by_cases hlt : (xs.length : Int) < 10 + dx218
        rotate_left
        · go_wp2_with (fail)
          refine post_named ?_
          intro V223 hV
          have hkV223 : W219.heap.size ≤ V223.heap.size := by rw [hV]; first | with_reducible exact Nat.le_refl _ | (simp [World.setCell]; done) | (simp; omega)
          have R224 : Hid (FreshA cBer 5 48 (w.heap.size) V223 A2 cp2 xs) := hid (by rw [hV]; (repeat' (first | with_reducible exact R220.out | with_reducible refine FreshA.set_at ?_ (by assumption) _ | with_reducible refine FreshA.set_low ?_ ?_ _ | with_reducible refine FreshA.below ?_ (Below.drew (Below.refl _ _)) | with_reducible refine FreshA.below ?_ (Below.alloc (Below.refl _ _) (Nat.le_refl _) _) | (dsimp only; omega) | (simp; done) | (simp; omega))))
          have cu225 : CurS V223 b A cs cap (m + 61 + (xs.length : Int) + 1) := by rw [hV]; (repeat' (first | with_reducible refine CurS.setc ?_ ?_ | with_reducible refine CurS.allo ?_ | with_reducible refine CurS.drw ?_ | with_reducible exact cu221 | (dsimp only; omega) | (simp; done) | (simp; omega)))
          have gw226 : w.grownBy V223 (some b) := by rw [hV]; (repeat' (first | with_reducible exact World.grownBy.refl _ _ | with_reducible exact gw222 | with_reducible refine grownA ?_ | with_reducible refine grownS ?_ ?_ | with_reducible refine grown_drew ?_ | (dsimp only; omega) | (simp; done) | omega))
          have hzgw226 := gw226.size
          have hlcu225 := cu225.lt
          clear R220 cu221 gw222
          clear hV
          refine bodyPost_ret (v := .slice A2 xs.length cp2) ?_ rfl ⟨A2, cp2, xs, rfl, FreshA.mono R224.out (by omega), by first | omega | (simp; omega), CurS.mono cu225 (by omega), gw226⟩
          simp [results, Try.results72, go_sem]
        go_wp2_with (at_builtin; refine wlist_named ?_)
        intro V227 hV
        have hkV227 : W219.heap.size ≤ V227.heap.size := by rw [hV]; first | with_reducible exact Nat.le_refl _ | (simp [World.setCell]; done) | (simp; omega)
        have R228 : Hid (FreshA cBer 5 48 (w.heap.size) V227 A2 cp2 xs) := hid (by rw [hV]; (repeat' (first | with_reducible exact R220.out | with_reducible refine FreshA.set_at ?_ (by assumption) _ | with_reducible refine FreshA.set_low ?_ ?_ _ | with_reducible refine FreshA.below ?_ (Below.drew (Below.refl _ _)) | with_reducible refine FreshA.below ?_ (Below.alloc (Below.refl _ _) (Nat.le_refl _) _) | (dsimp only; omega) | (simp; done) | (simp; omega))))
        have cu229 : CurS V227 b A cs cap (m + 61 + (xs.length : Int) + 1) := by rw [hV]; (repeat' (first | with_reducible refine CurS.setc ?_ ?_ | with_reducible refine CurS.allo ?_ | with_reducible refine CurS.drw ?_ | with_reducible exact cu221 | (dsimp only; omega) | (simp; done) | (simp; omega)))
        have gw230 : w.grownBy V227 (some b) := by rw [hV]; (repeat' (first | with_reducible exact World.grownBy.refl _ _ | with_reducible exact gw222 | with_reducible refine grownA ?_ | with_reducible refine grownS ?_ ?_ | with_reducible refine grown_drew ?_ | (dsimp only; omega) | (simp; done) | omega))
        have hzgw230 := gw230.size
        have hlcu229 := cu229.lt
        clear R220 cu221 gw222
        refine wpList_pushesR (xs := xs) rfl (.tmp 87) (.tmp 96) 25 rfl 48 i0 _ 40 Try.underlying25 hI0 hI1 hI2 hI3 rfl (by decide) (fun _ => rfl) one_Ber _ rfl rfl R228.out [((xs.length : Int) + 1, 0, 1, 2 * (xs.length : Int), 2 * (xs.length : Int) + 1)] 1 rfl _ _ rfl (by rw [hV]; exact Rds.ofBox (by first | exact heap_alloc_new _ _ | exact heapDrewAt (heap_alloc_new _ _))) (by unfold maxLen; omega) (by first | omega | (simp; omega)) (by omega) ?_
        intro A5 cp5 W6 hF3 hg3 hat3
        clear hV
        have hkW6 := hg3.size
        have hlo := R228.out.lo
        have R231 : Hid (FreshA cBer 5 48 (w.heap.size) W6 A5 cp5 (xs ++ [((xs.length : Int) + 1, 0, 1, 2 * (xs.length : Int), 2 * (xs.length : Int) + 1)])) := hid (hF3)
        have cu232 : CurS W6 b A cs cap (m + 61 + (xs.length : Int) + 1) := CurS.other cu229 hg3 hlo (by omega)
        have gw233 : w.grownBy W6 (some b) := grown_other gw230 hg3 (hlo.mono (by omega))
        have hzgw233 := gw233.size
        have hlcu232 := cu232.lt
        clear R228 cu229 gw230
        clear hlo
        clear hF3 hg3 hat3
        have hl5 : (xs ++ [((xs.length : Int) + 1, 0, 1, 2 * (xs.length : Int), 2 * (xs.length : Int) + 1)]).length = xs.length + 1 := by simp
        go_wp2_with (fail)
        go_roundw
        case rel =>
          refine ⟨A5, cp5, xs ++ [((xs.length : Int) + 1, 0, 1, 2 * (xs.length : Int), 2 * (xs.length : Int) + 1)], by first | rfl | (rw [hl5]; done) | (simp; done), by first | rfl | (rw [hl5]; go_num) | (simp; done), by simp; omega, ?_, ?_, ?_⟩
          · (repeat' (first | with_reducible exact (FreshA.mono R231.out (by omega)) | with_reducible refine FreshA.set_at ?_ (by assumption) _ | with_reducible refine FreshA.set_low ?_ ?_ _ | with_reducible refine FreshA.below ?_ (Below.drew (Below.refl _ _)) | with_reducible refine FreshA.below ?_ (Below.alloc (Below.refl _ _) (Nat.le_refl _) _) | (dsimp only; omega) | (simp; done) | (simp; omega)))
          · refine CurS.mono ?_ (m := m + 61 + (xs.length : Int) + 1) (by first | omega | (simp; omega))
            (repeat' (first | with_reducible refine CurS.setc ?_ ?_ | with_reducible refine CurS.allo ?_ | with_reducible refine CurS.drw ?_ | with_reducible exact cu232 | (dsimp only; omega) | (simp; done) | (simp; omega)))
          · (repeat' (first | with_reducible exact World.grownBy.refl _ _ | with_reducible exact gw233 | with_reducible refine grownA ?_ | with_reducible refine grownS ?_ ?_ | with_reducible refine grown_drew ?_ | (dsimp only; omega) | (simp; done) | omega))
        case measure => simp [lenOf]; omega
    by_cases hk2 : dx162 = 2
    · subst hk2
      by_cases h1 : 1 < xs.length
      rotate_left
      · go_wp2_with (fail)
        refine post_named ?_
        intro V234 hV
        have hkV234 : W163.heap.size ≤ V234.heap.size := by rw [hV]; first | with_reducible exact Nat.le_refl _ | (simp [World.setCell]; done) | (simp; omega)
        have R235 : Hid (FreshA cBer 5 48 (w.heap.size) V234 A2 cp2 xs) := hid (by rw [hV]; (repeat' (first | with_reducible exact R164.out | with_reducible refine FreshA.set_at ?_ (by assumption) _ | with_reducible refine FreshA.set_low ?_ ?_ _ | with_reducible refine FreshA.below ?_ (Below.drew (Below.refl _ _)) | with_reducible refine FreshA.below ?_ (Below.alloc (Below.refl _ _) (Nat.le_refl _) _) | (dsimp only; omega) | (simp; done) | (simp; omega))))
        have cu236 : CurS V234 b A cs cap (m + 60 + 1) := by rw [hV]; (repeat' (first | with_reducible refine CurS.setc ?_ ?_ | with_reducible refine CurS.allo ?_ | with_reducible refine CurS.drw ?_ | with_reducible exact cu165 | (dsimp only; omega) | (simp; done) | (simp; omega)))
        have gw237 : w.grownBy V234 (some b) := by rw [hV]; (repeat' (first | with_reducible exact World.grownBy.refl _ _ | with_reducible exact gw166 | with_reducible refine grownA ?_ | with_reducible refine grownS ?_ ?_ | with_reducible refine grown_drew ?_ | (dsimp only; omega) | (simp; done) | omega))
        have hzgw237 := gw237.size
        have hlcu236 := cu236.lt
        clear R164 cu165 gw166
        clear hV
        refine bodyPost_ret (v := .slice A2 xs.length cp2) ?_ rfl ⟨A2, cp2, xs, rfl, FreshA.mono R235.out (by omega), by first | omega | (simp; omega), CurS.mono cu236 (by omega), gw237⟩
        simp [results, Try.results72, go_sem]
      obtain ⟨g2, rfl, hBg, hOg⟩ := FreshA.row R164.out (by omega)
      have HOG := hid hOg
      have hg2l := hOg.lt
      have hzg := fun o => hOg.frozen o
      clear hOg
      obtain ⟨b9, o9, hge, hb9, hc9⟩ := (R164.out).rds 0 xs[0] (List.getElem?_eq_getElem (by omega))
      cases hge
      have e00 := hc9 0 _ rfl
      have e01 := hc9 1 _ rfl
      have e02 := hc9 2 _ rfl
      have e03 := hc9 3 _ rfl
      have e04 := hc9 4 _ rfl
      simp only [Nat.zero_add, Nat.add_zero, Nat.zero_mul, Nat.one_mul, Nat.reduceAdd] at e00 e01 e02 e03 e04
      clear hc9
      generalize xs[0] = y at e00 e01 e02 e03 e04
      obtain ⟨b9, o9, hge, hb9, hc9⟩ := (R164.out).rds 1 xs[1] (List.getElem?_eq_getElem (by omega))
      cases hge
      have e10 := hc9 0 _ rfl
      have e11 := hc9 1 _ rfl
      have e12 := hc9 2 _ rfl
      have e13 := hc9 3 _ rfl
      have e14 := hc9 4 _ rfl
      simp only [Nat.zero_add, Nat.add_zero, Nat.zero_mul, Nat.one_mul, Nat.reduceAdd] at e10 e11 e12 e13 e14
      clear hc9
      generalize xs[1] = z at e10 e11 e12 e13 e14
      go_wp2_with (fail)
      refine post_named ?_
      intro V238 hV
      have hkV238 : W163.heap.size ≤ V238.heap.size := by rw [hV]; first | with_reducible exact Nat.le_refl _ | (simp [World.setCell]; done) | (simp; omega)
      have cu239 : CurS V238 b A cs cap (m + 60 + 1) := by rw [hV]; (repeat' (first | with_reducible refine CurS.setc ?_ ?_ | with_reducible refine CurS.allo ?_ | with_reducible refine CurS.drw ?_ | with_reducible exact cu165 | (dsimp only; omega) | (simp; done) | (simp; omega)))
      have gw240 : w.grownBy V238 (some b) := by rw [hV]; (repeat' (first | with_reducible exact World.grownBy.refl _ _ | with_reducible exact gw166 | with_reducible refine grownA ?_ | with_reducible refine grownS ?_ ?_ | with_reducible refine grown_drew ?_ | (dsimp only; omega) | (simp; done) | omega))
      have hzgw240 := gw240.size
      have hlcu239 := cu239.lt
      clear cu165 gw166
      have RN := hid (show FreshA cBer 5 48 w.heap.size V238 (some ⟨g2, 0, none⟩) cp2 (xs.set 1 (z.1, y.2.1, z.2.2.1, y.2.2.2.1, z.2.2.2.2)) by rw [hV]; refine FreshA.of_own1 ?_ (by omega); refine OwnS.block ?_ (Below.heap_alloc _ _ _ (by simp [World.setCell]; omega)); with_reducible refine OwnS.put5 ?_ h1; with_reducible exact HOG.out)
      clear hV
      refine bodyPost_ret (v := .slice (some ⟨g2, 0, none⟩) xs.length cp2) ?_ rfl ⟨(some ⟨g2, 0, none⟩), cp2, xs.set 1 (z.1, y.2.1, z.2.2.1, y.2.2.2.1, z.2.2.2.2), by simp, RN.out, by simp; omega, CurS.mono cu239 (by omega), gw240⟩
      simp [results, Try.results72, go_sem]
    by_cases hk3 : dx162 = 3
    · subst hk3
      go_wp2_with (fail)
      refine calls_named ?_
      intro V241 hV
      have hkV241 : W163.heap.size ≤ V241.heap.size := by rw [hV]; first | with_reducible exact Nat.le_refl _ | (simp [World.setCell]; done) | (simp; omega)
      have R242 : Hid (FreshA cBer 5 48 (w.heap.size) V241 A2 cp2 xs) := hid (by rw [hV]; (repeat' (first | with_reducible exact R164.out | with_reducible refine FreshA.set_at ?_ (by assumption) _ | with_reducible refine FreshA.set_low ?_ ?_ _ | with_reducible refine FreshA.below ?_ (Below.drew (Below.refl _ _)) | with_reducible refine FreshA.below ?_ (Below.alloc (Below.refl _ _) (Nat.le_refl _) _) | (dsimp only; omega) | (simp; done) | (simp; omega))))
      have cu243 : CurS V241 b A cs cap (m + 60 + 1) := by rw [hV]; (repeat' (first | with_reducible refine CurS.setc ?_ ?_ | with_reducible refine CurS.allo ?_ | with_reducible refine CurS.drw ?_ | with_reducible exact cu165 | (dsimp only; omega) | (simp; done) | (simp; omega)))
      have gw244 : w.grownBy V241 (some b) := by rw [hV]; (repeat' (first | with_reducible exact World.grownBy.refl _ _ | with_reducible exact gw166 | with_reducible refine grownA ?_ | with_reducible refine grownS ?_ ?_ | with_reducible refine grown_drew ?_ | (dsimp only; omega) | (simp; done) | omega))
      have hzgw244 := gw244.size
      have hlcu243 := cu243.lt
      clear R164 cu165 gw166
      refine (c_among b A cs cap (m + 60 + 1) _ ([10, 499, 500] : List Int) _ (10) (500) _ cu243 hby (by omega) hl (by rw [hV]; exact Rds.of_lit (by simp) (by intro i x h; rcases i with _ | _ | _ | i <;> simp at h ⊢ <;> first | exact h | omega)) (by simp) (by intro a ha; cases ha; simp; omega) (fun k hk => (show ∀ x ∈ ([10, 499, 500] : List Int), 10 ≤ x ∧ x ≤ 500 by intro x hx; simp at hx; omega) _ (List.getElem_mem hk))).mono ?_
      rintro e W246 ⟨dx245, rfl, hdx245a, hdx245b, hcn, hg⟩
      clear hV
      have hkW246 := hg.size
      have R247 : Hid (FreshA cBer 5 48 (w.heap.size) W246 A2 cp2 xs) := hid (FreshA.rowb R242.out hg (by omega))
      have cu248 : CurS W246 b A cs cap (m + 60 + 1 + 1) := hcn
      have gw249 : w.grownBy W246 (some b) := grown_trans gw244 hg
      have hzgw249 := gw249.size
      have hlcu248 := cu248.lt
      clear R242 cu243 gw244
      clear hg
      go_wp2_with (fail)
      refine post_named ?_
      intro V250 hV
      have hkV250 : W246.heap.size ≤ V250.heap.size := by rw [hV]; first | with_reducible exact Nat.le_refl _ | (simp [World.setCell]; done) | (simp; omega)
      have cu251 : CurS V250 b A cs cap (m + 60 + 1 + 1) := by rw [hV]; (repeat' (first | with_reducible refine CurS.setc ?_ ?_ | with_reducible refine CurS.allo ?_ | with_reducible refine CurS.drw ?_ | with_reducible exact cu248 | (dsimp only; omega) | (simp; done) | (simp; omega)))
      have gw252 : w.grownBy V250 (some b) := by rw [hV]; (repeat' (first | with_reducible exact World.grownBy.refl _ _ | with_reducible exact gw249 | with_reducible refine grownA ?_ | with_reducible refine grownS ?_ ?_ | with_reducible refine grown_drew ?_ | (dsimp only; omega) | (simp; done) | omega))
      have hzgw252 := gw252.size
      have hlcu251 := cu251.lt
      clear cu248 gw249
      have RN := hid (show FreshA cBer 5 48 w.heap.size V250 (some ⟨W246.heap.size, 0, none⟩) 1 [((9, 0, q, 0, dx245) : (Int × Int × Int × Int × Int))] by rw [hV]; first | exact FreshA.newBox (q := ((9, 0, q, 0, dx245) : (Int × Int × Int × Int × Int))) rfl (by omega) | exact FreshA.below (FreshA.newBox (q := ((9, 0, q, 0, dx245) : (Int × Int × Int × Int × Int))) rfl (by omega)) (Below.drew (Below.refl _ _)))
      clear hV
      refine bodyPost_ret (v := .slice (some ⟨W246.heap.size, 0, none⟩) 1 1) ?_ rfl ⟨_, 1, [((9, 0, q, 0, dx245) : (Int × Int × Int × Int × Int))], rfl, RN.out, by simp, CurS.mono cu251 (by omega), gw252⟩
      simp [results, Try.results72, go_sem]
    go_wp2_with (fail)
    refine post_named ?_
    intro V253 hV
    have hkV253 : W163.heap.size ≤ V253.heap.size := by rw [hV]; first | with_reducible exact Nat.le_refl _ | (simp [World.setCell]; done) | (simp; omega)
    have R254 : Hid (FreshA cBer 5 48 (w.heap.size) V253 A2 cp2 xs) := hid (by rw [hV]; (repeat' (first | with_reducible exact R164.out | with_reducible refine FreshA.set_at ?_ (by assumption) _ | with_reducible refine FreshA.set_low ?_ ?_ _ | with_reducible refine FreshA.below ?_ (Below.drew (Below.refl _ _)) | with_reducible refine FreshA.below ?_ (Below.alloc (Below.refl _ _) (Nat.le_refl _) _) | (dsimp only; omega) | (simp; done) | (simp; omega))))
    have cu255 : CurS V253 b A cs cap (m + 60 + 1) := by rw [hV]; (repeat' (first | with_reducible refine CurS.setc ?_ ?_ | with_reducible refine CurS.allo ?_ | with_reducible refine CurS.drw ?_ | with_reducible exact cu165 | (dsimp only; omega) | (simp; done) | (simp; omega)))
    have gw256 : w.grownBy V253 (some b) := by rw [hV]; (repeat' (first | with_reducible exact World.grownBy.refl _ _ | with_reducible exact gw166 | with_reducible refine grownA ?_ | with_reducible refine grownS ?_ ?_ | with_reducible refine grown_drew ?_ | (dsimp only; omega) | (simp; done) | omega))
    have hzgw256 := gw256.size
    have hlcu255 := cu255.lt
    clear R164 cu165 gw166
    clear hV
    refine bodyPost_ret (v := .slice A2 xs.length cp2) ?_ rfl ⟨A2, cp2, xs, rfl, FreshA.mono R254.out (by omega), by first | omega | (simp; omega), CurS.mono cu255 (by omega), gw256⟩
    simp [results, Try.results72, go_sem]

end Go.Proofs.Ytfipmalomhflgaa
namespace Go.Proofs.Ytfipmalomhflgaa
set_option linter.unusedSimpArgs false
set_option linter.unusedVariables false
open Go.RowKit

theorem below_gw {w w' : World} {b B : Nat} (hg : w.grownBy w' (some b)) (hb : B ≤ b) (hB : B ≤ w.heap.size) : Below B w w' := below_row (Below.refl _ _) hg hb hB
theorem c_amongk (b : Nat) (A : Option Addr) (cs : List Int) (cap : Nat) (m : Int) (AL : Option Addr) (L : List Int) (k capL : Nat) (lo hi : Int) (w : World) (hcu : CurS w b A cs cap m) (hby : Bytes cs) (hm : 0 ≤ m ∧ m ≤ 900000000) (hl : cs.length ≤ 1000000000)
    (hL : Rds cI 1 w AL L) (hk : 0 < k ∧ k ≤ L.length) (hlen : L.length ≤ 200) (hne : ∀ a, AL = some a → some a.block ≠ some b) (hbd : ∀ x ∈ L, lo ≤ x ∧ x ≤ hi) :
    Calls Try.prog 73 #[.pointer (some ⟨b, 0, none⟩), .slice AL k capL] w fun e w' => ∃ y : Int, e = .returned (.int .i64 y) ∧ lo ≤ y ∧ y ≤ hi ∧ CurS w' b A cs cap (m + 1) ∧ w.grownBy w' (some b) := by
  have hlk : (L.take k).length = k := by rw [List.length_take]; omega
  have h := c_among b A cs cap m AL (L.take k) capL lo hi w hcu hby hm hl (fun i x hx => hL i x (by rw [List.getElem?_take] at hx; split at hx; exact hx; cases hx)) (by omega) hne (fun q hq => hbd _ (List.mem_of_mem_take (List.getElem_mem hq)))
  rwa [hlk] at h

set_option maxRecDepth 100000 in
set_option maxHeartbeats 8000000 in
theorem c_spec_DrawIsBerthing (A : Option Addr) (cs : List Int) (cap : Nat) (w : World) (hr : Rds cB 1 w A cs) (hby : Bytes cs) (hl : cs.length ≤ 1000000000) :
    Calls Try.prog 75 #[.slice A cs.length cap] w fun e w' => ∃ (q : Int) (Af : Option Addr) (cf : Nat) (xs : List (Int × Int × Int × Int × Int)), e = .returned (.tuple #[.int .i64 q, .slice Af xs.length cf]) ∧ FreshA cBer 5 48 w.heap.size w' Af cf xs ∧ xs.length ≤ 12 ∧ Below w.heap.size w w' := by
  obtain ⟨B0, hB0⟩ : ∃ B0, B0 = w.heap.size := ⟨_, rfl⟩
  rw [← hB0]
  have hB1 : B0 ≤ w.heap.size := by omega
  have hB2 : w.heap.size ≤ B0 := by omega
  clear hB0
  go_enter Try.func75, Try.ntmps75
  go_wp2_with (fail)
  refine calls_named ?_
  intro V1 hV
  have hcu : CurS V1 (w.heap.size) A cs cap 0 := by rw [hV]; exact CurS.new hr (by (repeat' (first | exact Below.refl _ _ | assumption | refine Below.setCell ?_ ?_ _ | refine Below.drew ?_ | refine Below.alloc ?_ ?_ _ | refine Below.trans ?_ (Below.mono (by assumption) ?_) | (simp; done) | (simp; omega) | omega))) (by simp)
  have gw0 : w.grownBy V1 (some (w.heap.size)) := by rw [hV]; (repeat' (first | with_reducible exact World.grownBy.refl _ _ | with_reducible assumption | with_reducible refine grownA ?_ | with_reducible refine grownS ?_ ?_ | with_reducible refine grown_drew ?_ | (dsimp only; omega) | (simp; done) | omega))
  clear hV
  have hltb := hcu.lt
  obtain ⟨b, hbd1, hbd2, hbd⟩ : ∃ b, b ≤ w.heap.size ∧ w.heap.size ≤ b ∧ b = w.heap.size := ⟨_, Nat.le_refl _, Nat.le_refl _, rfl⟩
  rw [← hbd] at hcu gw0 hltb ⊢
  clear hbd
  refine (c_quay b A cs cap (0) _ hcu hby (by omega) hl).mono ?_
  rintro e W257 ⟨q, rfl, hqa, hqb, hcn, hg⟩
  have hkW257 := hg.size
  have cu258 : CurS W257 b A cs cap (0 + 2) := hcn
  have gw259 : w.grownBy W257 (some b) := grown_trans gw0 hg
  have hzgw259 := gw259.size
  have hlcu258 := cu258.lt
  clear gw0
  clear hg
  go_wp2_with (fail)
  refine calls_named ?_
  intro V260 hV
  have hkV260 : W257.heap.size ≤ V260.heap.size := by rw [hV]; first | with_reducible exact Nat.le_refl _ | (simp [World.setCell]; done) | (simp; omega)
  have cu261 : CurS V260 b A cs cap (0 + 2) := by rw [hV]; (repeat' (first | with_reducible refine CurS.setc ?_ ?_ | with_reducible refine CurS.allo ?_ | with_reducible refine CurS.drw ?_ | with_reducible exact cu258 | (dsimp only; omega) | (simp; done) | (simp; omega)))
  have gw262 : w.grownBy V260 (some b) := by rw [hV]; (repeat' (first | with_reducible exact World.grownBy.refl _ _ | with_reducible exact gw259 | with_reducible refine grownA ?_ | with_reducible refine grownS ?_ ?_ | with_reducible refine grown_drew ?_ | (dsimp only; omega) | (simp; done) | omega))
  have hzgw262 := gw262.size
  have hlcu261 := cu261.lt
  clear cu258 gw259
  clear hV
  refine (c_berthing b A cs cap (0 + 2) q _ cu261 hby (by omega) hl (by omega)).mono ?_
  rintro e W263 ⟨Af, cf, xs, rfl, hFf, hxl, hcn, hg⟩
  have hkW263 := hg.size
  have cu264 : CurS W263 b A cs cap (0 + 2 + 100) := hcn
  have gw265 : w.grownBy W263 (some b) := grown_trans gw262 hg
  have hzgw265 := gw265.size
  have hlcu264 := cu264.lt
  clear cu261 gw262
  clear hg
  have S266 : Hid (FreshA cBer 5 48 (V260.heap.size) W263 Af cf xs) := hid (hFf)
  clear hFf
  have hPb : w.heap.size ≤ V260.heap.size := by omega
  go_wp2_with (fail)
  refine post_named ?_
  intro VP hV
  have hkVP : W263.heap.size ≤ VP.heap.size := by rw [hV]; first | with_reducible exact Nat.le_refl _ | (simp [World.setCell]; done) | (simp; omega)
  have R267 : Hid (FreshA cBer 5 48 (V260.heap.size) VP Af cf xs) := hid (by rw [hV]; (repeat' (first | with_reducible exact S266.out | with_reducible refine FreshA.set_at ?_ (by assumption) _ | with_reducible refine FreshA.set_low ?_ ?_ _ | with_reducible refine FreshA.below ?_ (Below.drew (Below.refl _ _)) | with_reducible refine FreshA.below ?_ (Below.alloc (Below.refl _ _) (Nat.le_refl _) _) | (dsimp only; omega) | (simp; done) | (simp; omega))))
  have gw269 : w.grownBy VP (some b) := by rw [hV]; (repeat' (first | with_reducible exact World.grownBy.refl _ _ | with_reducible exact gw265 | with_reducible refine grownA ?_ | with_reducible refine grownS ?_ ?_ | with_reducible refine grown_drew ?_ | (dsimp only; omega) | (simp; done) | omega))
  have hzgw269 := gw269.size
  clear S266 cu264 gw265
  clear hV
  refine bodyPost_ret (v := .tuple #[.int .i64 q, .slice Af xs.length cf]) ?_ rfl ⟨q, Af, cf, xs, rfl, FreshA.mono R267.out (by omega), hxl, below_gw gw269 (by omega) hB1⟩
  simp [results, Try.results75, go_sem]

set_option maxHeartbeats 2000000 in
theorem c_spec_DrawFullHours (A : Option Addr) (cs : List Int) (cap : Nat) (w : World) (hr : Rds cB 1 w A cs) (hby : Bytes cs) (hl : cs.length ≤ 1000000000) :
    Calls Try.prog 43 #[.slice A cs.length cap] w fun e w' => ∃ (q : Int) (Af : Option Addr) (cf : Nat) (xs : List (Int × Int × Int × Int × Int)), e = .returned (.tuple #[.int .i64 q, .slice Af xs.length cf]) ∧ FreshA cBer 5 48 w.heap.size w' Af cf xs ∧ xs.length ≤ 12 ∧ Below w.heap.size w w' := by
  go_enter Try.func43, Try.ntmps43
  go_wp2_with (fail)
  refine (c_spec_DrawIsBerthing A cs cap _ hr hby hl).mono ?_
  rintro e W2 ⟨q, Af, cf, xs, rfl, hFf, hxl, hb⟩
  go_wp2_with (fail)
  refine bodyPost_ret (v := .tuple #[.int .i64 q, .slice Af xs.length cf]) ?_ rfl ⟨q, Af, cf, xs, rfl, hFf, hxl, hb⟩
  simp [results, Try.results43, go_sem]

set_option maxHeartbeats 2000000 in
theorem c_spec_DrawCellHours (A : Option Addr) (cs : List Int) (cap : Nat) (w : World) (hr : Rds cB 1 w A cs) (hby : Bytes cs) (hl : cs.length ≤ 1000000000) :
    Calls Try.prog 51 #[.slice A cs.length cap] w fun e w' => ∃ (q : Int) (Af : Option Addr) (cf : Nat) (xs : List (Int × Int × Int × Int × Int)), e = .returned (.tuple #[.int .i64 q, .slice Af xs.length cf]) ∧ FreshA cBer 5 48 w.heap.size w' Af cf xs ∧ xs.length ≤ 12 ∧ Below w.heap.size w w' := by
  go_enter Try.func51, Try.ntmps51
  go_wp2_with (fail)
  refine (c_spec_DrawIsBerthing A cs cap _ hr hby hl).mono ?_
  rintro e W2 ⟨q, Af, cf, xs, rfl, hFf, hxl, hb⟩
  go_wp2_with (fail)
  refine bodyPost_ret (v := .tuple #[.int .i64 q, .slice Af xs.length cf]) ?_ rfl ⟨q, Af, cf, xs, rfl, hFf, hxl, hb⟩
  simp [results, Try.results51, go_sem]

set_option maxRecDepth 100000 in
set_option maxHeartbeats 8000000 in
theorem c_spec_DrawFreeCells (A : Option Addr) (cs : List Int) (cap : Nat) (w : World) (hr : Rds cB 1 w A cs) (hby : Bytes cs) (hl : cs.length ≤ 1000000000) :
    Calls Try.prog 46 #[.slice A cs.length cap] w fun e w' => ∃ (q : Int) (Af : Option Addr) (cf : Nat) (xs : List (Int × Int × Int × Int × Int)) (hh : Int), e = .returned (.tuple #[.int .i64 q, .slice Af xs.length cf, .int .i64 hh]) ∧ FreshA cBer 5 48 w.heap.size w' Af cf xs ∧ xs.length ≤ 12 ∧ Below w.heap.size w w' := by
  obtain ⟨B0, hB0⟩ : ∃ B0, B0 = w.heap.size := ⟨_, rfl⟩
  rw [← hB0]
  have hB1 : B0 ≤ w.heap.size := by omega
  have hB2 : w.heap.size ≤ B0 := by omega
  clear hB0
  go_enter Try.func46, Try.ntmps46
  go_wp2_with (fail)
  refine calls_named ?_
  intro V1 hV
  have hcu : CurS V1 (w.heap.size) A cs cap 0 := by rw [hV]; exact CurS.new hr (by (repeat' (first | exact Below.refl _ _ | assumption | refine Below.setCell ?_ ?_ _ | refine Below.drew ?_ | refine Below.alloc ?_ ?_ _ | refine Below.trans ?_ (Below.mono (by assumption) ?_) | (simp; done) | (simp; omega) | omega))) (by simp)
  have gw0 : w.grownBy V1 (some (w.heap.size)) := by rw [hV]; (repeat' (first | with_reducible exact World.grownBy.refl _ _ | with_reducible assumption | with_reducible refine grownA ?_ | with_reducible refine grownS ?_ ?_ | with_reducible refine grown_drew ?_ | (dsimp only; omega) | (simp; done) | omega))
  clear hV
  have hltb := hcu.lt
  obtain ⟨b, hbd1, hbd2, hbd⟩ : ∃ b, b ≤ w.heap.size ∧ w.heap.size ≤ b ∧ b = w.heap.size := ⟨_, Nat.le_refl _, Nat.le_refl _, rfl⟩
  rw [← hbd] at hcu gw0 hltb ⊢
  clear hbd
  refine (c_quay b A cs cap (0) _ hcu hby (by omega) hl).mono ?_
  rintro e W270 ⟨q, rfl, hqa, hqb, hcn, hg⟩
  have hkW270 := hg.size
  have cu271 : CurS W270 b A cs cap (0 + 2) := hcn
  have gw272 : w.grownBy W270 (some b) := grown_trans gw0 hg
  have hzgw272 := gw272.size
  have hlcu271 := cu271.lt
  clear gw0
  clear hg
  go_wp2_with (fail)
  refine calls_named ?_
  intro V273 hV
  have hkV273 : W270.heap.size ≤ V273.heap.size := by rw [hV]; first | with_reducible exact Nat.le_refl _ | (simp [World.setCell]; done) | (simp; omega)
  have cu274 : CurS V273 b A cs cap (0 + 2) := by rw [hV]; (repeat' (first | with_reducible refine CurS.setc ?_ ?_ | with_reducible refine CurS.allo ?_ | with_reducible refine CurS.drw ?_ | with_reducible exact cu271 | (dsimp only; omega) | (simp; done) | (simp; omega)))
  have gw275 : w.grownBy V273 (some b) := by rw [hV]; (repeat' (first | with_reducible exact World.grownBy.refl _ _ | with_reducible exact gw272 | with_reducible refine grownA ?_ | with_reducible refine grownS ?_ ?_ | with_reducible refine grown_drew ?_ | (dsimp only; omega) | (simp; done) | omega))
  have hzgw275 := gw275.size
  have hlcu274 := cu274.lt
  clear cu271 gw272
  clear hV
  refine (c_berthing b A cs cap (0 + 2) q _ cu274 hby (by omega) hl (by omega)).mono ?_
  rintro e W276 ⟨Af, cf, xs, rfl, hFf, hxl, hcn, hg⟩
  have hkW276 := hg.size
  have cu277 : CurS W276 b A cs cap (0 + 2 + 100) := hcn
  have gw278 : w.grownBy W276 (some b) := grown_trans gw275 hg
  have hzgw278 := gw278.size
  have hlcu277 := cu277.lt
  clear cu274 gw275
  clear hg
  have S279 : Hid (FreshA cBer 5 48 (V273.heap.size) W276 Af cf xs) := hid (hFf)
  clear hFf
  have hPb : w.heap.size ≤ V273.heap.size := by omega
  go_wp2_with (fail)
  refine calls_named ?_
  intro V280 hV
  have hkV280 : W276.heap.size ≤ V280.heap.size := by rw [hV]; first | with_reducible exact Nat.le_refl _ | (simp [World.setCell]; done) | (simp; omega)
  have R281 : Hid (FreshA cBer 5 48 (V273.heap.size) V280 Af cf xs) := hid (by rw [hV]; (repeat' (first | with_reducible exact S279.out | with_reducible refine FreshA.set_at ?_ (by assumption) _ | with_reducible refine FreshA.set_low ?_ ?_ _ | with_reducible refine FreshA.below ?_ (Below.drew (Below.refl _ _)) | with_reducible refine FreshA.below ?_ (Below.alloc (Below.refl _ _) (Nat.le_refl _) _) | (dsimp only; omega) | (simp; done) | (simp; omega))))
  have cu282 : CurS V280 b A cs cap (0 + 2 + 100) := by rw [hV]; (repeat' (first | with_reducible refine CurS.setc ?_ ?_ | with_reducible refine CurS.allo ?_ | with_reducible refine CurS.drw ?_ | with_reducible exact cu277 | (dsimp only; omega) | (simp; done) | (simp; omega)))
  have gw283 : w.grownBy V280 (some b) := by rw [hV]; (repeat' (first | with_reducible exact World.grownBy.refl _ _ | with_reducible exact gw278 | with_reducible refine grownA ?_ | with_reducible refine grownS ?_ ?_ | with_reducible refine grown_drew ?_ | (dsimp only; omega) | (simp; done) | omega))
  have hzgw283 := gw283.size
  have hlcu282 := cu282.lt
  clear S279 cu277 gw278
  clear hV
  refine (c_hour16 b A cs cap (0 + 2 + 100) _ cu282 hby (by omega) hl).mono ?_
  rintro e W284 ⟨hh, rfl, hh1, hh2, hcn, hg⟩
  have hkW284 := hg.size
  have R285 : Hid (FreshA cBer 5 48 (V273.heap.size) W284 Af cf xs) := hid (FreshA.rowb R281.out hg (by omega))
  have cu286 : CurS W284 b A cs cap (0 + 2 + 100 + 2) := hcn
  have gw287 : w.grownBy W284 (some b) := grown_trans gw283 hg
  have hzgw287 := gw287.size
  have hlcu286 := cu286.lt
  clear R281 cu282 gw283
  clear hg
  go_wp2_with (fail)
  refine post_named ?_
  intro VP hV
  have hkVP : W284.heap.size ≤ VP.heap.size := by rw [hV]; first | with_reducible exact Nat.le_refl _ | (simp [World.setCell]; done) | (simp; omega)
  have R288 : Hid (FreshA cBer 5 48 (V273.heap.size) VP Af cf xs) := hid (by rw [hV]; (repeat' (first | with_reducible exact R285.out | with_reducible refine FreshA.set_at ?_ (by assumption) _ | with_reducible refine FreshA.set_low ?_ ?_ _ | with_reducible refine FreshA.below ?_ (Below.drew (Below.refl _ _)) | with_reducible refine FreshA.below ?_ (Below.alloc (Below.refl _ _) (Nat.le_refl _) _) | (dsimp only; omega) | (simp; done) | (simp; omega))))
  have gw290 : w.grownBy VP (some b) := by rw [hV]; (repeat' (first | with_reducible exact World.grownBy.refl _ _ | with_reducible exact gw287 | with_reducible refine grownA ?_ | with_reducible refine grownS ?_ ?_ | with_reducible refine grown_drew ?_ | (dsimp only; omega) | (simp; done) | omega))
  have hzgw290 := gw290.size
  clear R285 cu286 gw287
  clear hV
  refine bodyPost_ret (v := .tuple #[.int .i64 q, .slice Af xs.length cf, .int .i64 hh]) ?_ rfl ⟨q, Af, cf, xs, hh, rfl, FreshA.mono R288.out (by omega), hxl, below_gw gw290 (by omega) hB1⟩
  simp [results, Try.results46, go_sem]

end Go.Proofs.Ytfipmalomhflgaa
namespace Go.Proofs.Ytfipmalomhflgaa
set_option linter.unusedSimpArgs false
set_option linter.unusedVariables false
open Go.RowKit

set_option maxRecDepth 100000 in
set_option maxHeartbeats 8000000 in
theorem c_spec_DrawAddBerth (A : Option Addr) (cs : List Int) (cap : Nat) (w : World) (hr : Rds cB 1 w A cs) (hby : Bytes cs) (hl : cs.length ≤ 1000000000) :
    Calls Try.prog 48 #[.slice A cs.length cap] w fun e w' => ∃ (q : Int) (Af : Option Addr) (cf : Nat) (xs : List (Int × Int × Int × Int × Int)) (z1 z2 z3 z4 z5 : Int), e = .returned (.tuple #[.int .i64 q, .slice Af xs.length cf, .agg #[.int .i64 z1, .int .i64 z2, .int .i64 z3, .int .i64 z4, .int .i64 z5]]) ∧ FreshA cBer 5 48 w.heap.size w' Af cf xs ∧ xs.length ≤ 12 ∧ (1 ≤ z1 ∧ z1 ≤ 99 ∧ 0 ≤ z3 ∧ z3 ≤ 20 ∧ 0 ≤ z4 ∧ z4 ≤ 499 ∧ z4 ≤ z5 ∧ z5 ≤ z4 + 5) ∧ Below w.heap.size w w' := by
  obtain ⟨B0, hB0⟩ : ∃ B0, B0 = w.heap.size := ⟨_, rfl⟩
  rw [← hB0]
  have hB1 : B0 ≤ w.heap.size := by omega
  have hB2 : w.heap.size ≤ B0 := by omega
  clear hB0
  go_enter Try.func48, Try.ntmps48
  go_wp2_with (fail)
  refine calls_named ?_
  intro V1 hV
  have hcu : CurS V1 (w.heap.size + 1) A cs cap 0 := by rw [hV]; exact CurS.new hr (by (repeat' (first | exact Below.refl _ _ | assumption | refine Below.setCell ?_ ?_ _ | refine Below.drew ?_ | refine Below.alloc ?_ ?_ _ | refine Below.trans ?_ (Below.mono (by assumption) ?_) | (simp; done) | (simp; omega) | omega))) (by simp)
  have gw0 : w.grownBy V1 (some (w.heap.size + 1)) := by rw [hV]; (repeat' (first | with_reducible exact World.grownBy.refl _ _ | with_reducible assumption | with_reducible refine grownA ?_ | with_reducible refine grownS ?_ ?_ | with_reducible refine grown_drew ?_ | (dsimp only; omega) | (simp; done) | omega))
  have d330 : V1.cell? ⟨w.heap.size, 0, none⟩ = some (.int .i64 0) := by rw [hV]; first | (simp [go_sem, ↓IntWalk.iteOmega, *]; done) | (simp [go_sem, ↓IntWalk.iteOmega, *]; intros; omega)
  have d331 : V1.cell? ⟨w.heap.size, 1, none⟩ = some (.int .i64 0) := by rw [hV]; first | (simp [go_sem, ↓IntWalk.iteOmega, *]; done) | (simp [go_sem, ↓IntWalk.iteOmega, *]; intros; omega)
  have d332 : V1.cell? ⟨w.heap.size, 2, none⟩ = some (.int .i64 0) := by rw [hV]; first | (simp [go_sem, ↓IntWalk.iteOmega, *]; done) | (simp [go_sem, ↓IntWalk.iteOmega, *]; intros; omega)
  have d333 : V1.cell? ⟨w.heap.size, 3, none⟩ = some (.int .i64 0) := by rw [hV]; first | (simp [go_sem, ↓IntWalk.iteOmega, *]; done) | (simp [go_sem, ↓IntWalk.iteOmega, *]; intros; omega)
  have d334 : V1.cell? ⟨w.heap.size, 4, none⟩ = some (.int .i64 0) := by rw [hV]; first | (simp [go_sem, ↓IntWalk.iteOmega, *]; done) | (simp [go_sem, ↓IntWalk.iteOmega, *]; intros; omega)
  have e335 : ∀ o, V1.frozen? ⟨w.heap.size, o, none⟩ = false := by rw [hV]; intro o; first | (simp [go_sem, ↓IntWalk.iteOmega, *]; done) | (simp [go_sem, ↓IntWalk.iteOmega, *]; intros; omega)
  clear hV
  have hltb := hcu.lt
  obtain ⟨b, hbd1, hbd2, hbd⟩ : ∃ b, b ≤ w.heap.size + 1 ∧ w.heap.size + 1 ≤ b ∧ b = w.heap.size + 1 := ⟨_, Nat.le_refl _, Nat.le_refl _, rfl⟩
  rw [← hbd] at hcu gw0 hltb ⊢
  clear hbd
  refine (c_quay b A cs cap (0) _ hcu hby (by omega) hl).mono ?_
  rintro e W336 ⟨q, rfl, hqa, hqb, hcn, hg⟩
  have hkW336 := hg.size
  have c337 : W336.cell? ⟨w.heap.size, 0, none⟩ = some (.int .i64 0) := (cellRow hg (w.heap.size) 0).trans (by rw [if_pos ⟨by omega, by omega⟩]; exact d330)
  have c338 : W336.cell? ⟨w.heap.size, 1, none⟩ = some (.int .i64 0) := (cellRow hg (w.heap.size) 1).trans (by rw [if_pos ⟨by omega, by omega⟩]; exact d331)
  have c339 : W336.cell? ⟨w.heap.size, 2, none⟩ = some (.int .i64 0) := (cellRow hg (w.heap.size) 2).trans (by rw [if_pos ⟨by omega, by omega⟩]; exact d332)
  have c340 : W336.cell? ⟨w.heap.size, 3, none⟩ = some (.int .i64 0) := (cellRow hg (w.heap.size) 3).trans (by rw [if_pos ⟨by omega, by omega⟩]; exact d333)
  have c341 : W336.cell? ⟨w.heap.size, 4, none⟩ = some (.int .i64 0) := (cellRow hg (w.heap.size) 4).trans (by rw [if_pos ⟨by omega, by omega⟩]; exact d334)
  have z342 : ∀ o, W336.frozen? ⟨w.heap.size, o, none⟩ = false := fun o => (frozRow hg (w.heap.size) o).trans (by rw [if_pos ⟨by omega, by omega⟩]; exact e335 o)
  have cu343 : CurS W336 b A cs cap (0 + 2) := hcn
  have gw344 : w.grownBy W336 (some b) := grown_trans gw0 hg
  have hzgw344 := gw344.size
  have hlcu343 := cu343.lt
  clear d330 d331 d332 d333 d334 e335 gw0
  clear hg
  go_wp2_with (fail)
  refine calls_named ?_
  intro V345 hV
  have hkV345 : W336.heap.size ≤ V345.heap.size := by rw [hV]; first | with_reducible exact Nat.le_refl _ | (simp [World.setCell]; done) | (simp; omega)
  have c346 : V345.cell? ⟨w.heap.size, 0, none⟩ = some (.int .i64 0) := by rw [hV]; first | ((repeat' (first | with_reducible exact c337 | with_reducible refine cellK_drew ?_ | with_reducible refine cellK_alloc ?_ | with_reducible refine cellK_set ?_ (by dsimp only; omega))); done) | (first | (simp [go_sem, ↓IntWalk.iteOmega, *]; done) | (simp [go_sem, ↓IntWalk.iteOmega, *]; intros; omega))
  have c347 : V345.cell? ⟨w.heap.size, 1, none⟩ = some (.int .i64 0) := by rw [hV]; first | ((repeat' (first | with_reducible exact c338 | with_reducible refine cellK_drew ?_ | with_reducible refine cellK_alloc ?_ | with_reducible refine cellK_set ?_ (by dsimp only; omega))); done) | (first | (simp [go_sem, ↓IntWalk.iteOmega, *]; done) | (simp [go_sem, ↓IntWalk.iteOmega, *]; intros; omega))
  have c348 : V345.cell? ⟨w.heap.size, 2, none⟩ = some (.int .i64 0) := by rw [hV]; first | ((repeat' (first | with_reducible exact c339 | with_reducible refine cellK_drew ?_ | with_reducible refine cellK_alloc ?_ | with_reducible refine cellK_set ?_ (by dsimp only; omega))); done) | (first | (simp [go_sem, ↓IntWalk.iteOmega, *]; done) | (simp [go_sem, ↓IntWalk.iteOmega, *]; intros; omega))
  have c349 : V345.cell? ⟨w.heap.size, 3, none⟩ = some (.int .i64 0) := by rw [hV]; first | ((repeat' (first | with_reducible exact c340 | with_reducible refine cellK_drew ?_ | with_reducible refine cellK_alloc ?_ | with_reducible refine cellK_set ?_ (by dsimp only; omega))); done) | (first | (simp [go_sem, ↓IntWalk.iteOmega, *]; done) | (simp [go_sem, ↓IntWalk.iteOmega, *]; intros; omega))
  have c350 : V345.cell? ⟨w.heap.size, 4, none⟩ = some (.int .i64 0) := by rw [hV]; first | ((repeat' (first | with_reducible exact c341 | with_reducible refine cellK_drew ?_ | with_reducible refine cellK_alloc ?_ | with_reducible refine cellK_set ?_ (by dsimp only; omega))); done) | (first | (simp [go_sem, ↓IntWalk.iteOmega, *]; done) | (simp [go_sem, ↓IntWalk.iteOmega, *]; intros; omega))
  have z351 : ∀ o, V345.frozen? ⟨w.heap.size, o, none⟩ = false := by rw [hV]; first | ((repeat' (first | with_reducible exact z342 | with_reducible refine frozK_drew ?_ | with_reducible refine frozK_alloc ?_ | with_reducible refine frozK_set ?_)); done) | (intro o; first | (simp [go_sem, ↓IntWalk.iteOmega, *]; done) | (simp [go_sem, ↓IntWalk.iteOmega, *]; intros; omega))
  have cu352 : CurS V345 b A cs cap (0 + 2) := by rw [hV]; (repeat' (first | with_reducible refine CurS.setc ?_ ?_ | with_reducible refine CurS.allo ?_ | with_reducible refine CurS.drw ?_ | with_reducible exact cu343 | (dsimp only; omega) | (simp; done) | (simp; omega)))
  have gw353 : w.grownBy V345 (some b) := by rw [hV]; (repeat' (first | with_reducible exact World.grownBy.refl _ _ | with_reducible exact gw344 | with_reducible refine grownA ?_ | with_reducible refine grownS ?_ ?_ | with_reducible refine grown_drew ?_ | (dsimp only; omega) | (simp; done) | omega))
  have hzgw353 := gw353.size
  have hlcu352 := cu352.lt
  clear c337 c338 c339 c340 c341 z342 cu343 gw344
  clear hV
  refine (c_berthing b A cs cap (0 + 2) q _ cu352 hby (by omega) hl (by omega)).mono ?_
  rintro e W354 ⟨Af, cf, xs, rfl, hFf, hxl, hcn, hg⟩
  have hkW354 := hg.size
  have c355 : W354.cell? ⟨w.heap.size, 0, none⟩ = some (.int .i64 0) := (cellRow hg (w.heap.size) 0).trans (by rw [if_pos ⟨by omega, by omega⟩]; exact c346)
  have c356 : W354.cell? ⟨w.heap.size, 1, none⟩ = some (.int .i64 0) := (cellRow hg (w.heap.size) 1).trans (by rw [if_pos ⟨by omega, by omega⟩]; exact c347)
  have c357 : W354.cell? ⟨w.heap.size, 2, none⟩ = some (.int .i64 0) := (cellRow hg (w.heap.size) 2).trans (by rw [if_pos ⟨by omega, by omega⟩]; exact c348)
  have c358 : W354.cell? ⟨w.heap.size, 3, none⟩ = some (.int .i64 0) := (cellRow hg (w.heap.size) 3).trans (by rw [if_pos ⟨by omega, by omega⟩]; exact c349)
  have c359 : W354.cell? ⟨w.heap.size, 4, none⟩ = some (.int .i64 0) := (cellRow hg (w.heap.size) 4).trans (by rw [if_pos ⟨by omega, by omega⟩]; exact c350)
  have z360 : ∀ o, W354.frozen? ⟨w.heap.size, o, none⟩ = false := fun o => (frozRow hg (w.heap.size) o).trans (by rw [if_pos ⟨by omega, by omega⟩]; exact z351 o)
  have cu361 : CurS W354 b A cs cap (0 + 2 + 100) := hcn
  have gw362 : w.grownBy W354 (some b) := grown_trans gw353 hg
  have hzgw362 := gw362.size
  have hlcu361 := cu361.lt
  clear c346 c347 c348 c349 c350 z351 cu352 gw353
  clear hg
  have S363 : Hid (FreshA cBer 5 48 (V345.heap.size) W354 Af cf xs) := hid (hFf)
  clear hFf
  have hPb : w.heap.size ≤ V345.heap.size := by omega
  go_wp2_with (fail)
  refine calls_named ?_
  intro V364 hV
  have hkV364 : W354.heap.size ≤ V364.heap.size := by rw [hV]; first | with_reducible exact Nat.le_refl _ | (simp [World.setCell]; done) | (simp; omega)
  have c365 : V364.cell? ⟨w.heap.size, 0, none⟩ = some (.int .i64 0) := by rw [hV]; first | ((repeat' (first | with_reducible exact c355 | with_reducible refine cellK_drew ?_ | with_reducible refine cellK_alloc ?_ | with_reducible refine cellK_set ?_ (by dsimp only; omega))); done) | (first | (simp [go_sem, ↓IntWalk.iteOmega, *]; done) | (simp [go_sem, ↓IntWalk.iteOmega, *]; intros; omega))
  have c366 : V364.cell? ⟨w.heap.size, 1, none⟩ = some (.int .i64 0) := by rw [hV]; first | ((repeat' (first | with_reducible exact c356 | with_reducible refine cellK_drew ?_ | with_reducible refine cellK_alloc ?_ | with_reducible refine cellK_set ?_ (by dsimp only; omega))); done) | (first | (simp [go_sem, ↓IntWalk.iteOmega, *]; done) | (simp [go_sem, ↓IntWalk.iteOmega, *]; intros; omega))
  have c367 : V364.cell? ⟨w.heap.size, 2, none⟩ = some (.int .i64 0) := by rw [hV]; first | ((repeat' (first | with_reducible exact c357 | with_reducible refine cellK_drew ?_ | with_reducible refine cellK_alloc ?_ | with_reducible refine cellK_set ?_ (by dsimp only; omega))); done) | (first | (simp [go_sem, ↓IntWalk.iteOmega, *]; done) | (simp [go_sem, ↓IntWalk.iteOmega, *]; intros; omega))
  have c368 : V364.cell? ⟨w.heap.size, 3, none⟩ = some (.int .i64 0) := by rw [hV]; first | ((repeat' (first | with_reducible exact c358 | with_reducible refine cellK_drew ?_ | with_reducible refine cellK_alloc ?_ | with_reducible refine cellK_set ?_ (by dsimp only; omega))); done) | (first | (simp [go_sem, ↓IntWalk.iteOmega, *]; done) | (simp [go_sem, ↓IntWalk.iteOmega, *]; intros; omega))
  have c369 : V364.cell? ⟨w.heap.size, 4, none⟩ = some (.int .i64 0) := by rw [hV]; first | ((repeat' (first | with_reducible exact c359 | with_reducible refine cellK_drew ?_ | with_reducible refine cellK_alloc ?_ | with_reducible refine cellK_set ?_ (by dsimp only; omega))); done) | (first | (simp [go_sem, ↓IntWalk.iteOmega, *]; done) | (simp [go_sem, ↓IntWalk.iteOmega, *]; intros; omega))
  have z370 : ∀ o, V364.frozen? ⟨w.heap.size, o, none⟩ = false := by rw [hV]; first | ((repeat' (first | with_reducible exact z360 | with_reducible refine frozK_drew ?_ | with_reducible refine frozK_alloc ?_ | with_reducible refine frozK_set ?_)); done) | (intro o; first | (simp [go_sem, ↓IntWalk.iteOmega, *]; done) | (simp [go_sem, ↓IntWalk.iteOmega, *]; intros; omega))
  have R371 : Hid (FreshA cBer 5 48 (V345.heap.size) V364 Af cf xs) := hid (by rw [hV]; (repeat' (first | with_reducible exact S363.out | with_reducible refine FreshA.set_at ?_ (by assumption) _ | with_reducible refine FreshA.set_low ?_ ?_ _ | with_reducible refine FreshA.below ?_ (Below.drew (Below.refl _ _)) | with_reducible refine FreshA.below ?_ (Below.alloc (Below.refl _ _) (Nat.le_refl _) _) | (dsimp only; omega) | (simp; done) | (simp; omega))))
  have cu372 : CurS V364 b A cs cap (0 + 2 + 100) := by rw [hV]; (repeat' (first | with_reducible refine CurS.setc ?_ ?_ | with_reducible refine CurS.allo ?_ | with_reducible refine CurS.drw ?_ | with_reducible exact cu361 | (dsimp only; omega) | (simp; done) | (simp; omega)))
  have gw373 : w.grownBy V364 (some b) := by rw [hV]; (repeat' (first | with_reducible exact World.grownBy.refl _ _ | with_reducible exact gw362 | with_reducible refine grownA ?_ | with_reducible refine grownS ?_ ?_ | with_reducible refine grown_drew ?_ | (dsimp only; omega) | (simp; done) | omega))
  have hzgw373 := gw373.size
  have hlcu372 := cu372.lt
  clear c355 c356 c357 c358 c359 z360 S363 cu361 gw362
  refine (c_among b A cs cap (0 + 2 + 100) _ ([0, 2, 5, 12, 499] : List Int) _ (0) (499) _ cu372 hby (by omega) hl (by rw [hV]; exact Rds.of_lit (by simp) (by intro i x h; rcases i with _ | _ | _ | _ | _ | i <;> simp at h ⊢ <;> first | exact h | omega)) (by simp) (by intro a ha; cases ha; simp; omega) (fun k hk => (show ∀ x ∈ ([0, 2, 5, 12, 499] : List Int), 0 ≤ x ∧ x ≤ 499 by intro x hx; simp at hx; omega) _ (List.getElem_mem hk))).mono ?_
  rintro e W375 ⟨dx374, rfl, hdx374a, hdx374b, hcn, hg⟩
  clear hV
  have hkW375 := hg.size
  have c376 : W375.cell? ⟨w.heap.size, 0, none⟩ = some (.int .i64 0) := (cellRow hg (w.heap.size) 0).trans (by rw [if_pos ⟨by omega, by omega⟩]; exact c365)
  have c377 : W375.cell? ⟨w.heap.size, 1, none⟩ = some (.int .i64 0) := (cellRow hg (w.heap.size) 1).trans (by rw [if_pos ⟨by omega, by omega⟩]; exact c366)
  have c378 : W375.cell? ⟨w.heap.size, 2, none⟩ = some (.int .i64 0) := (cellRow hg (w.heap.size) 2).trans (by rw [if_pos ⟨by omega, by omega⟩]; exact c367)
  have c379 : W375.cell? ⟨w.heap.size, 3, none⟩ = some (.int .i64 0) := (cellRow hg (w.heap.size) 3).trans (by rw [if_pos ⟨by omega, by omega⟩]; exact c368)
  have c380 : W375.cell? ⟨w.heap.size, 4, none⟩ = some (.int .i64 0) := (cellRow hg (w.heap.size) 4).trans (by rw [if_pos ⟨by omega, by omega⟩]; exact c369)
  have z381 : ∀ o, W375.frozen? ⟨w.heap.size, o, none⟩ = false := fun o => (frozRow hg (w.heap.size) o).trans (by rw [if_pos ⟨by omega, by omega⟩]; exact z370 o)
  have R382 : Hid (FreshA cBer 5 48 (V345.heap.size) W375 Af cf xs) := hid (FreshA.rowb R371.out hg (by omega))
  have cu383 : CurS W375 b A cs cap (0 + 2 + 100 + 1) := hcn
  have gw384 : w.grownBy W375 (some b) := grown_trans gw373 hg
  have hzgw384 := gw384.size
  have hlcu383 := cu383.lt
  clear c365 c366 c367 c368 c369 z370 R371 cu372 gw373
  clear hg
  go_wp2_with (fail)
  refine calls_named ?_
  intro V385 hV
  have hkV385 : W375.heap.size ≤ V385.heap.size := by rw [hV]; first | with_reducible exact Nat.le_refl _ | (simp [World.setCell]; done) | (simp; omega)
  have c386 : V385.cell? ⟨w.heap.size, 0, none⟩ = some (.int .i64 0) := by rw [hV]; first | ((repeat' (first | with_reducible exact c376 | with_reducible refine cellK_drew ?_ | with_reducible refine cellK_alloc ?_ | with_reducible refine cellK_set ?_ (by dsimp only; omega))); done) | (first | (simp [go_sem, ↓IntWalk.iteOmega, *]; done) | (simp [go_sem, ↓IntWalk.iteOmega, *]; intros; omega))
  have c387 : V385.cell? ⟨w.heap.size, 1, none⟩ = some (.int .i64 0) := by rw [hV]; first | ((repeat' (first | with_reducible exact c377 | with_reducible refine cellK_drew ?_ | with_reducible refine cellK_alloc ?_ | with_reducible refine cellK_set ?_ (by dsimp only; omega))); done) | (first | (simp [go_sem, ↓IntWalk.iteOmega, *]; done) | (simp [go_sem, ↓IntWalk.iteOmega, *]; intros; omega))
  have c388 : V385.cell? ⟨w.heap.size, 2, none⟩ = some (.int .i64 0) := by rw [hV]; first | ((repeat' (first | with_reducible exact c378 | with_reducible refine cellK_drew ?_ | with_reducible refine cellK_alloc ?_ | with_reducible refine cellK_set ?_ (by dsimp only; omega))); done) | (first | (simp [go_sem, ↓IntWalk.iteOmega, *]; done) | (simp [go_sem, ↓IntWalk.iteOmega, *]; intros; omega))
  have c389 : V385.cell? ⟨w.heap.size, 3, none⟩ = some (.int .i64 0) := by rw [hV]; first | ((repeat' (first | with_reducible exact c379 | with_reducible refine cellK_drew ?_ | with_reducible refine cellK_alloc ?_ | with_reducible refine cellK_set ?_ (by dsimp only; omega))); done) | (first | (simp [go_sem, ↓IntWalk.iteOmega, *]; done) | (simp [go_sem, ↓IntWalk.iteOmega, *]; intros; omega))
  have c390 : V385.cell? ⟨w.heap.size, 4, none⟩ = some (.int .i64 0) := by rw [hV]; first | ((repeat' (first | with_reducible exact c380 | with_reducible refine cellK_drew ?_ | with_reducible refine cellK_alloc ?_ | with_reducible refine cellK_set ?_ (by dsimp only; omega))); done) | (first | (simp [go_sem, ↓IntWalk.iteOmega, *]; done) | (simp [go_sem, ↓IntWalk.iteOmega, *]; intros; omega))
  have z391 : ∀ o, V385.frozen? ⟨w.heap.size, o, none⟩ = false := by rw [hV]; first | ((repeat' (first | with_reducible exact z381 | with_reducible refine frozK_drew ?_ | with_reducible refine frozK_alloc ?_ | with_reducible refine frozK_set ?_)); done) | (intro o; first | (simp [go_sem, ↓IntWalk.iteOmega, *]; done) | (simp [go_sem, ↓IntWalk.iteOmega, *]; intros; omega))
  have R392 : Hid (FreshA cBer 5 48 (V345.heap.size) V385 Af cf xs) := hid (by rw [hV]; (repeat' (first | with_reducible exact R382.out | with_reducible refine FreshA.set_at ?_ (by assumption) _ | with_reducible refine FreshA.set_low ?_ ?_ _ | with_reducible refine FreshA.below ?_ (Below.drew (Below.refl _ _)) | with_reducible refine FreshA.below ?_ (Below.alloc (Below.refl _ _) (Nat.le_refl _) _) | (dsimp only; omega) | (simp; done) | (simp; omega))))
  have cu393 : CurS V385 b A cs cap (0 + 2 + 100 + 1) := by rw [hV]; (repeat' (first | with_reducible refine CurS.setc ?_ ?_ | with_reducible refine CurS.allo ?_ | with_reducible refine CurS.drw ?_ | with_reducible exact cu383 | (dsimp only; omega) | (simp; done) | (simp; omega)))
  have gw394 : w.grownBy V385 (some b) := by rw [hV]; (repeat' (first | with_reducible exact World.grownBy.refl _ _ | with_reducible exact gw384 | with_reducible refine grownA ?_ | with_reducible refine grownS ?_ ?_ | with_reducible refine grown_drew ?_ | (dsimp only; omega) | (simp; done) | omega))
  have hzgw394 := gw394.size
  have hlcu393 := cu393.lt
  clear c376 c377 c378 c379 c380 z381 R382 cu383 gw384
  clear hV
  refine (c_pick b A cs cap (0 + 2 + 100 + 1) (25) _ cu393 hby (by omega) hl (by omega)).mono ?_
  rintro e W396 ⟨dx395, rfl, hdx395a, hdx395b, hcn, hg⟩
  have hkW396 := hg.size
  have c397 : W396.cell? ⟨w.heap.size, 0, none⟩ = some (.int .i64 0) := (cellRow hg (w.heap.size) 0).trans (by rw [if_pos ⟨by omega, by omega⟩]; exact c386)
  have c398 : W396.cell? ⟨w.heap.size, 1, none⟩ = some (.int .i64 0) := (cellRow hg (w.heap.size) 1).trans (by rw [if_pos ⟨by omega, by omega⟩]; exact c387)
  have c399 : W396.cell? ⟨w.heap.size, 2, none⟩ = some (.int .i64 0) := (cellRow hg (w.heap.size) 2).trans (by rw [if_pos ⟨by omega, by omega⟩]; exact c388)
  have c400 : W396.cell? ⟨w.heap.size, 3, none⟩ = some (.int .i64 0) := (cellRow hg (w.heap.size) 3).trans (by rw [if_pos ⟨by omega, by omega⟩]; exact c389)
  have c401 : W396.cell? ⟨w.heap.size, 4, none⟩ = some (.int .i64 0) := (cellRow hg (w.heap.size) 4).trans (by rw [if_pos ⟨by omega, by omega⟩]; exact c390)
  have z402 : ∀ o, W396.frozen? ⟨w.heap.size, o, none⟩ = false := fun o => (frozRow hg (w.heap.size) o).trans (by rw [if_pos ⟨by omega, by omega⟩]; exact z391 o)
  have R403 : Hid (FreshA cBer 5 48 (V345.heap.size) W396 Af cf xs) := hid (FreshA.rowb R392.out hg (by omega))
  have cu404 : CurS W396 b A cs cap (0 + 2 + 100 + 1 + 1) := hcn
  have gw405 : w.grownBy W396 (some b) := grown_trans gw394 hg
  have hzgw405 := gw405.size
  have hlcu404 := cu404.lt
  clear c386 c387 c388 c389 c390 z391 R392 cu393 gw394
  clear hg
  go_wp2_with (fail)
  refine calls_named ?_
  intro V406 hV
  have hkV406 : W396.heap.size ≤ V406.heap.size := by rw [hV]; first | with_reducible exact Nat.le_refl _ | (simp [World.setCell]; done) | (simp; omega)
  have c407 : V406.cell? ⟨w.heap.size, 0, none⟩ = some (.int .i64 0) := by rw [hV]; first | ((repeat' (first | with_reducible exact c397 | with_reducible refine cellK_drew ?_ | with_reducible refine cellK_alloc ?_ | with_reducible refine cellK_set ?_ (by dsimp only; omega))); done) | (first | (simp [go_sem, ↓IntWalk.iteOmega, *]; done) | (simp [go_sem, ↓IntWalk.iteOmega, *]; intros; omega))
  have c408 : V406.cell? ⟨w.heap.size, 1, none⟩ = some (.int .i64 0) := by rw [hV]; first | ((repeat' (first | with_reducible exact c398 | with_reducible refine cellK_drew ?_ | with_reducible refine cellK_alloc ?_ | with_reducible refine cellK_set ?_ (by dsimp only; omega))); done) | (first | (simp [go_sem, ↓IntWalk.iteOmega, *]; done) | (simp [go_sem, ↓IntWalk.iteOmega, *]; intros; omega))
  have c409 : V406.cell? ⟨w.heap.size, 2, none⟩ = some (.int .i64 0) := by rw [hV]; first | ((repeat' (first | with_reducible exact c399 | with_reducible refine cellK_drew ?_ | with_reducible refine cellK_alloc ?_ | with_reducible refine cellK_set ?_ (by dsimp only; omega))); done) | (first | (simp [go_sem, ↓IntWalk.iteOmega, *]; done) | (simp [go_sem, ↓IntWalk.iteOmega, *]; intros; omega))
  have c410 : V406.cell? ⟨w.heap.size, 3, none⟩ = some (.int .i64 0) := by rw [hV]; first | ((repeat' (first | with_reducible exact c400 | with_reducible refine cellK_drew ?_ | with_reducible refine cellK_alloc ?_ | with_reducible refine cellK_set ?_ (by dsimp only; omega))); done) | (first | (simp [go_sem, ↓IntWalk.iteOmega, *]; done) | (simp [go_sem, ↓IntWalk.iteOmega, *]; intros; omega))
  have c411 : V406.cell? ⟨w.heap.size, 4, none⟩ = some (.int .i64 0) := by rw [hV]; first | ((repeat' (first | with_reducible exact c401 | with_reducible refine cellK_drew ?_ | with_reducible refine cellK_alloc ?_ | with_reducible refine cellK_set ?_ (by dsimp only; omega))); done) | (first | (simp [go_sem, ↓IntWalk.iteOmega, *]; done) | (simp [go_sem, ↓IntWalk.iteOmega, *]; intros; omega))
  have z412 : ∀ o, V406.frozen? ⟨w.heap.size, o, none⟩ = false := by rw [hV]; first | ((repeat' (first | with_reducible exact z402 | with_reducible refine frozK_drew ?_ | with_reducible refine frozK_alloc ?_ | with_reducible refine frozK_set ?_)); done) | (intro o; first | (simp [go_sem, ↓IntWalk.iteOmega, *]; done) | (simp [go_sem, ↓IntWalk.iteOmega, *]; intros; omega))
  have R413 : Hid (FreshA cBer 5 48 (V345.heap.size) V406 Af cf xs) := hid (by rw [hV]; (repeat' (first | with_reducible exact R403.out | with_reducible refine FreshA.set_at ?_ (by assumption) _ | with_reducible refine FreshA.set_low ?_ ?_ _ | with_reducible refine FreshA.below ?_ (Below.drew (Below.refl _ _)) | with_reducible refine FreshA.below ?_ (Below.alloc (Below.refl _ _) (Nat.le_refl _) _) | (dsimp only; omega) | (simp; done) | (simp; omega))))
  have cu414 : CurS V406 b A cs cap (0 + 2 + 100 + 1 + 1) := by rw [hV]; (repeat' (first | with_reducible refine CurS.setc ?_ ?_ | with_reducible refine CurS.allo ?_ | with_reducible refine CurS.drw ?_ | with_reducible exact cu404 | (dsimp only; omega) | (simp; done) | (simp; omega)))
  have gw415 : w.grownBy V406 (some b) := by rw [hV]; (repeat' (first | with_reducible exact World.grownBy.refl _ _ | with_reducible exact gw405 | with_reducible refine grownA ?_ | with_reducible refine grownS ?_ ?_ | with_reducible refine grown_drew ?_ | (dsimp only; omega) | (simp; done) | omega))
  have hzgw415 := gw415.size
  have hlcu414 := cu414.lt
  clear c397 c398 c399 c400 c401 z402 R403 cu404 gw405
  clear hV
  refine (c_spec_l1Most _ _ _).mono ?_
  rintro e W416 ⟨rfl, hb⟩
  have hkW416 := hb.size
  have c417 : W416.cell? ⟨w.heap.size, 0, none⟩ = some (.int .i64 0) := (hb.cell (p := ⟨w.heap.size, 0, none⟩) (by show w.heap.size < _; omega)).trans c407
  have c418 : W416.cell? ⟨w.heap.size, 1, none⟩ = some (.int .i64 0) := (hb.cell (p := ⟨w.heap.size, 1, none⟩) (by show w.heap.size < _; omega)).trans c408
  have c419 : W416.cell? ⟨w.heap.size, 2, none⟩ = some (.int .i64 0) := (hb.cell (p := ⟨w.heap.size, 2, none⟩) (by show w.heap.size < _; omega)).trans c409
  have c420 : W416.cell? ⟨w.heap.size, 3, none⟩ = some (.int .i64 0) := (hb.cell (p := ⟨w.heap.size, 3, none⟩) (by show w.heap.size < _; omega)).trans c410
  have c421 : W416.cell? ⟨w.heap.size, 4, none⟩ = some (.int .i64 0) := (hb.cell (p := ⟨w.heap.size, 4, none⟩) (by show w.heap.size < _; omega)).trans c411
  have z422 : ∀ o, W416.frozen? ⟨w.heap.size, o, none⟩ = false := fun o => (hb.frozen (p := ⟨w.heap.size, o, none⟩) (by show w.heap.size < _; omega)).trans (z412 o)
  have R423 : Hid (FreshA cBer 5 48 (V345.heap.size) W416 Af cf xs) := hid (FreshA.below R413.out hb)
  have cu424 : CurS W416 b A cs cap (0 + 2 + 100 + 1 + 1) := CurS.below cu414 hb
  have gw425 : w.grownBy W416 (some b) := grown_trans gw415 (grown_of_below hb)
  have hzgw425 := gw425.size
  have hlcu424 := cu424.lt
  clear c407 c408 c409 c410 c411 z412 R413 cu414 gw415
  clear hb
  go_wp2_with (fail)
  refine calls_named ?_
  intro V426 hV
  have hkV426 : W416.heap.size ≤ V426.heap.size := by rw [hV]; first | with_reducible exact Nat.le_refl _ | (simp [World.setCell]; done) | (simp; omega)
  have c427 : V426.cell? ⟨w.heap.size, 0, none⟩ = some (.int .i64 0) := by rw [hV]; first | ((repeat' (first | with_reducible exact c417 | with_reducible refine cellK_drew ?_ | with_reducible refine cellK_alloc ?_ | with_reducible refine cellK_set ?_ (by dsimp only; omega))); done) | (first | (simp [go_sem, ↓IntWalk.iteOmega, *]; done) | (simp [go_sem, ↓IntWalk.iteOmega, *]; intros; omega))
  have c428 : V426.cell? ⟨w.heap.size, 1, none⟩ = some (.int .i64 0) := by rw [hV]; first | ((repeat' (first | with_reducible exact c418 | with_reducible refine cellK_drew ?_ | with_reducible refine cellK_alloc ?_ | with_reducible refine cellK_set ?_ (by dsimp only; omega))); done) | (first | (simp [go_sem, ↓IntWalk.iteOmega, *]; done) | (simp [go_sem, ↓IntWalk.iteOmega, *]; intros; omega))
  have c429 : V426.cell? ⟨w.heap.size, 2, none⟩ = some (.int .i64 0) := by rw [hV]; first | ((repeat' (first | with_reducible exact c419 | with_reducible refine cellK_drew ?_ | with_reducible refine cellK_alloc ?_ | with_reducible refine cellK_set ?_ (by dsimp only; omega))); done) | (first | (simp [go_sem, ↓IntWalk.iteOmega, *]; done) | (simp [go_sem, ↓IntWalk.iteOmega, *]; intros; omega))
  have c430 : V426.cell? ⟨w.heap.size, 3, none⟩ = some (.int .i64 0) := by rw [hV]; first | ((repeat' (first | with_reducible exact c420 | with_reducible refine cellK_drew ?_ | with_reducible refine cellK_alloc ?_ | with_reducible refine cellK_set ?_ (by dsimp only; omega))); done) | (first | (simp [go_sem, ↓IntWalk.iteOmega, *]; done) | (simp [go_sem, ↓IntWalk.iteOmega, *]; intros; omega))
  have c431 : V426.cell? ⟨w.heap.size, 4, none⟩ = some (.int .i64 0) := by rw [hV]; first | ((repeat' (first | with_reducible exact c421 | with_reducible refine cellK_drew ?_ | with_reducible refine cellK_alloc ?_ | with_reducible refine cellK_set ?_ (by dsimp only; omega))); done) | (first | (simp [go_sem, ↓IntWalk.iteOmega, *]; done) | (simp [go_sem, ↓IntWalk.iteOmega, *]; intros; omega))
  have z432 : ∀ o, V426.frozen? ⟨w.heap.size, o, none⟩ = false := by rw [hV]; first | ((repeat' (first | with_reducible exact z422 | with_reducible refine frozK_drew ?_ | with_reducible refine frozK_alloc ?_ | with_reducible refine frozK_set ?_)); done) | (intro o; first | (simp [go_sem, ↓IntWalk.iteOmega, *]; done) | (simp [go_sem, ↓IntWalk.iteOmega, *]; intros; omega))
  have R433 : Hid (FreshA cBer 5 48 (V345.heap.size) V426 Af cf xs) := hid (by rw [hV]; (repeat' (first | with_reducible exact R423.out | with_reducible refine FreshA.set_at ?_ (by assumption) _ | with_reducible refine FreshA.set_low ?_ ?_ _ | with_reducible refine FreshA.below ?_ (Below.drew (Below.refl _ _)) | with_reducible refine FreshA.below ?_ (Below.alloc (Below.refl _ _) (Nat.le_refl _) _) | (dsimp only; omega) | (simp; done) | (simp; omega))))
  have cu434 : CurS V426 b A cs cap (0 + 2 + 100 + 1 + 1) := by rw [hV]; (repeat' (first | with_reducible refine CurS.setc ?_ ?_ | with_reducible refine CurS.allo ?_ | with_reducible refine CurS.drw ?_ | with_reducible exact cu424 | (dsimp only; omega) | (simp; done) | (simp; omega)))
  have gw435 : w.grownBy V426 (some b) := by rw [hV]; (repeat' (first | with_reducible exact World.grownBy.refl _ _ | with_reducible exact gw425 | with_reducible refine grownA ?_ | with_reducible refine grownS ?_ ?_ | with_reducible refine grown_drew ?_ | (dsimp only; omega) | (simp; done) | omega))
  have hzgw435 := gw435.size
  have hlcu434 := cu434.lt
  clear c417 c418 c419 c420 c421 z422 R423 cu424 gw425
  clear hV
  refine (c_pick b A cs cap (0 + 2 + 100 + 1 + 1) _ _ cu434 hby (by omega) hl (by omega)).mono ?_
  rintro e W437 ⟨dx436, rfl, hdx436a, hdx436b, hcn, hg⟩
  have hkW437 := hg.size
  have c438 : W437.cell? ⟨w.heap.size, 0, none⟩ = some (.int .i64 0) := (cellRow hg (w.heap.size) 0).trans (by rw [if_pos ⟨by omega, by omega⟩]; exact c427)
  have c439 : W437.cell? ⟨w.heap.size, 1, none⟩ = some (.int .i64 0) := (cellRow hg (w.heap.size) 1).trans (by rw [if_pos ⟨by omega, by omega⟩]; exact c428)
  have c440 : W437.cell? ⟨w.heap.size, 2, none⟩ = some (.int .i64 0) := (cellRow hg (w.heap.size) 2).trans (by rw [if_pos ⟨by omega, by omega⟩]; exact c429)
  have c441 : W437.cell? ⟨w.heap.size, 3, none⟩ = some (.int .i64 0) := (cellRow hg (w.heap.size) 3).trans (by rw [if_pos ⟨by omega, by omega⟩]; exact c430)
  have c442 : W437.cell? ⟨w.heap.size, 4, none⟩ = some (.int .i64 0) := (cellRow hg (w.heap.size) 4).trans (by rw [if_pos ⟨by omega, by omega⟩]; exact c431)
  have z443 : ∀ o, W437.frozen? ⟨w.heap.size, o, none⟩ = false := fun o => (frozRow hg (w.heap.size) o).trans (by rw [if_pos ⟨by omega, by omega⟩]; exact z432 o)
  have R444 : Hid (FreshA cBer 5 48 (V345.heap.size) W437 Af cf xs) := hid (FreshA.rowb R433.out hg (by omega))
  have cu445 : CurS W437 b A cs cap (0 + 2 + 100 + 1 + 1 + 1) := hcn
  have gw446 : w.grownBy W437 (some b) := grown_trans gw435 hg
  have hzgw446 := gw446.size
  have hlcu445 := cu445.lt
  clear c427 c428 c429 c430 c431 z432 R433 cu434 gw435
  clear hg
  go_wp2_with (fail)
  refine calls_named ?_
  intro V447 hV
  have hkV447 : W437.heap.size ≤ V447.heap.size := by rw [hV]; first | with_reducible exact Nat.le_refl _ | (simp [World.setCell]; done) | (simp; omega)
  have c448 : V447.cell? ⟨w.heap.size, 0, none⟩ = some (.int .i64 0) := by rw [hV]; first | ((repeat' (first | with_reducible exact c438 | with_reducible refine cellK_drew ?_ | with_reducible refine cellK_alloc ?_ | with_reducible refine cellK_set ?_ (by dsimp only; omega))); done) | (first | (simp [go_sem, ↓IntWalk.iteOmega, *]; done) | (simp [go_sem, ↓IntWalk.iteOmega, *]; intros; omega))
  have c449 : V447.cell? ⟨w.heap.size, 1, none⟩ = some (.int .i64 0) := by rw [hV]; first | ((repeat' (first | with_reducible exact c439 | with_reducible refine cellK_drew ?_ | with_reducible refine cellK_alloc ?_ | with_reducible refine cellK_set ?_ (by dsimp only; omega))); done) | (first | (simp [go_sem, ↓IntWalk.iteOmega, *]; done) | (simp [go_sem, ↓IntWalk.iteOmega, *]; intros; omega))
  have c450 : V447.cell? ⟨w.heap.size, 2, none⟩ = some (.int .i64 0) := by rw [hV]; first | ((repeat' (first | with_reducible exact c440 | with_reducible refine cellK_drew ?_ | with_reducible refine cellK_alloc ?_ | with_reducible refine cellK_set ?_ (by dsimp only; omega))); done) | (first | (simp [go_sem, ↓IntWalk.iteOmega, *]; done) | (simp [go_sem, ↓IntWalk.iteOmega, *]; intros; omega))
  have c451 : V447.cell? ⟨w.heap.size, 3, none⟩ = some (.int .i64 0) := by rw [hV]; first | ((repeat' (first | with_reducible exact c441 | with_reducible refine cellK_drew ?_ | with_reducible refine cellK_alloc ?_ | with_reducible refine cellK_set ?_ (by dsimp only; omega))); done) | (first | (simp [go_sem, ↓IntWalk.iteOmega, *]; done) | (simp [go_sem, ↓IntWalk.iteOmega, *]; intros; omega))
  have c452 : V447.cell? ⟨w.heap.size, 4, none⟩ = some (.int .i64 0) := by rw [hV]; first | ((repeat' (first | with_reducible exact c442 | with_reducible refine cellK_drew ?_ | with_reducible refine cellK_alloc ?_ | with_reducible refine cellK_set ?_ (by dsimp only; omega))); done) | (first | (simp [go_sem, ↓IntWalk.iteOmega, *]; done) | (simp [go_sem, ↓IntWalk.iteOmega, *]; intros; omega))
  have z453 : ∀ o, V447.frozen? ⟨w.heap.size, o, none⟩ = false := by rw [hV]; first | ((repeat' (first | with_reducible exact z443 | with_reducible refine frozK_drew ?_ | with_reducible refine frozK_alloc ?_ | with_reducible refine frozK_set ?_)); done) | (intro o; first | (simp [go_sem, ↓IntWalk.iteOmega, *]; done) | (simp [go_sem, ↓IntWalk.iteOmega, *]; intros; omega))
  have R454 : Hid (FreshA cBer 5 48 (V345.heap.size) V447 Af cf xs) := hid (by rw [hV]; (repeat' (first | with_reducible exact R444.out | with_reducible refine FreshA.set_at ?_ (by assumption) _ | with_reducible refine FreshA.set_low ?_ ?_ _ | with_reducible refine FreshA.below ?_ (Below.drew (Below.refl _ _)) | with_reducible refine FreshA.below ?_ (Below.alloc (Below.refl _ _) (Nat.le_refl _) _) | (dsimp only; omega) | (simp; done) | (simp; omega))))
  have cu455 : CurS V447 b A cs cap (0 + 2 + 100 + 1 + 1 + 1) := by rw [hV]; (repeat' (first | with_reducible refine CurS.setc ?_ ?_ | with_reducible refine CurS.allo ?_ | with_reducible refine CurS.drw ?_ | with_reducible exact cu445 | (dsimp only; omega) | (simp; done) | (simp; omega)))
  have gw456 : w.grownBy V447 (some b) := by rw [hV]; (repeat' (first | with_reducible exact World.grownBy.refl _ _ | with_reducible exact gw446 | with_reducible refine grownA ?_ | with_reducible refine grownS ?_ ?_ | with_reducible refine grown_drew ?_ | (dsimp only; omega) | (simp; done) | omega))
  have hzgw456 := gw456.size
  have hlcu455 := cu455.lt
  clear c438 c439 c440 c441 c442 z443 R444 cu445 gw446
  refine (c_among b A cs cap (0 + 2 + 100 + 1 + 1 + 1) _ ([1, 1, 2, 3, 0] : List Int) _ (0) (3) _ cu455 hby (by omega) hl (by rw [hV]; exact Rds.of_lit (by simp) (by intro i x h; rcases i with _ | _ | _ | _ | _ | i <;> simp at h ⊢ <;> first | exact h | omega)) (by simp) (by intro a ha; cases ha; simp; omega) (fun k hk => (show ∀ x ∈ ([1, 1, 2, 3, 0] : List Int), 0 ≤ x ∧ x ≤ 3 by intro x hx; simp at hx; omega) _ (List.getElem_mem hk))).mono ?_
  rintro e W458 ⟨dx457, rfl, hdx457a, hdx457b, hcn, hg⟩
  clear hV
  have hkW458 := hg.size
  have c459 : W458.cell? ⟨w.heap.size, 0, none⟩ = some (.int .i64 0) := (cellRow hg (w.heap.size) 0).trans (by rw [if_pos ⟨by omega, by omega⟩]; exact c448)
  have c460 : W458.cell? ⟨w.heap.size, 1, none⟩ = some (.int .i64 0) := (cellRow hg (w.heap.size) 1).trans (by rw [if_pos ⟨by omega, by omega⟩]; exact c449)
  have c461 : W458.cell? ⟨w.heap.size, 2, none⟩ = some (.int .i64 0) := (cellRow hg (w.heap.size) 2).trans (by rw [if_pos ⟨by omega, by omega⟩]; exact c450)
  have c462 : W458.cell? ⟨w.heap.size, 3, none⟩ = some (.int .i64 0) := (cellRow hg (w.heap.size) 3).trans (by rw [if_pos ⟨by omega, by omega⟩]; exact c451)
  have c463 : W458.cell? ⟨w.heap.size, 4, none⟩ = some (.int .i64 0) := (cellRow hg (w.heap.size) 4).trans (by rw [if_pos ⟨by omega, by omega⟩]; exact c452)
  have z464 : ∀ o, W458.frozen? ⟨w.heap.size, o, none⟩ = false := fun o => (frozRow hg (w.heap.size) o).trans (by rw [if_pos ⟨by omega, by omega⟩]; exact z453 o)
  have R465 : Hid (FreshA cBer 5 48 (V345.heap.size) W458 Af cf xs) := hid (FreshA.rowb R454.out hg (by omega))
  have cu466 : CurS W458 b A cs cap (0 + 2 + 100 + 1 + 1 + 1 + 1) := hcn
  have gw467 : w.grownBy W458 (some b) := grown_trans gw456 hg
  have hzgw467 := gw467.size
  have hlcu466 := cu466.lt
  clear c448 c449 c450 c451 c452 z453 R454 cu455 gw456
  clear hg
  go_wp2_with (fail)
  refine calls_named ?_
  intro V468 hV
  have hkV468 : W458.heap.size ≤ V468.heap.size := by rw [hV]; first | with_reducible exact Nat.le_refl _ | (simp [World.setCell]; done) | (simp; omega)
  have c469 : V468.cell? ⟨w.heap.size, 0, none⟩ = some (.int .i64 0) := by rw [hV]; first | ((repeat' (first | with_reducible exact c459 | with_reducible refine cellK_drew ?_ | with_reducible refine cellK_alloc ?_ | with_reducible refine cellK_set ?_ (by dsimp only; omega))); done) | (first | (simp [go_sem, ↓IntWalk.iteOmega, *]; done) | (simp [go_sem, ↓IntWalk.iteOmega, *]; intros; omega))
  have c470 : V468.cell? ⟨w.heap.size, 1, none⟩ = some (.int .i64 0) := by rw [hV]; first | ((repeat' (first | with_reducible exact c460 | with_reducible refine cellK_drew ?_ | with_reducible refine cellK_alloc ?_ | with_reducible refine cellK_set ?_ (by dsimp only; omega))); done) | (first | (simp [go_sem, ↓IntWalk.iteOmega, *]; done) | (simp [go_sem, ↓IntWalk.iteOmega, *]; intros; omega))
  have c471 : V468.cell? ⟨w.heap.size, 2, none⟩ = some (.int .i64 0) := by rw [hV]; first | ((repeat' (first | with_reducible exact c461 | with_reducible refine cellK_drew ?_ | with_reducible refine cellK_alloc ?_ | with_reducible refine cellK_set ?_ (by dsimp only; omega))); done) | (first | (simp [go_sem, ↓IntWalk.iteOmega, *]; done) | (simp [go_sem, ↓IntWalk.iteOmega, *]; intros; omega))
  have c472 : V468.cell? ⟨w.heap.size, 3, none⟩ = some (.int .i64 0) := by rw [hV]; first | ((repeat' (first | with_reducible exact c462 | with_reducible refine cellK_drew ?_ | with_reducible refine cellK_alloc ?_ | with_reducible refine cellK_set ?_ (by dsimp only; omega))); done) | (first | (simp [go_sem, ↓IntWalk.iteOmega, *]; done) | (simp [go_sem, ↓IntWalk.iteOmega, *]; intros; omega))
  have c473 : V468.cell? ⟨w.heap.size, 4, none⟩ = some (.int .i64 0) := by rw [hV]; first | ((repeat' (first | with_reducible exact c463 | with_reducible refine cellK_drew ?_ | with_reducible refine cellK_alloc ?_ | with_reducible refine cellK_set ?_ (by dsimp only; omega))); done) | (first | (simp [go_sem, ↓IntWalk.iteOmega, *]; done) | (simp [go_sem, ↓IntWalk.iteOmega, *]; intros; omega))
  have z474 : ∀ o, V468.frozen? ⟨w.heap.size, o, none⟩ = false := by rw [hV]; first | ((repeat' (first | with_reducible exact z464 | with_reducible refine frozK_drew ?_ | with_reducible refine frozK_alloc ?_ | with_reducible refine frozK_set ?_)); done) | (intro o; first | (simp [go_sem, ↓IntWalk.iteOmega, *]; done) | (simp [go_sem, ↓IntWalk.iteOmega, *]; intros; omega))
  have R475 : Hid (FreshA cBer 5 48 (V345.heap.size) V468 Af cf xs) := hid (by rw [hV]; (repeat' (first | with_reducible exact R465.out | with_reducible refine FreshA.set_at ?_ (by assumption) _ | with_reducible refine FreshA.set_low ?_ ?_ _ | with_reducible refine FreshA.below ?_ (Below.drew (Below.refl _ _)) | with_reducible refine FreshA.below ?_ (Below.alloc (Below.refl _ _) (Nat.le_refl _) _) | (dsimp only; omega) | (simp; done) | (simp; omega))))
  have cu476 : CurS V468 b A cs cap (0 + 2 + 100 + 1 + 1 + 1 + 1) := by rw [hV]; (repeat' (first | with_reducible refine CurS.setc ?_ ?_ | with_reducible refine CurS.allo ?_ | with_reducible refine CurS.drw ?_ | with_reducible exact cu466 | (dsimp only; omega) | (simp; done) | (simp; omega)))
  have gw477 : w.grownBy V468 (some b) := by rw [hV]; (repeat' (first | with_reducible exact World.grownBy.refl _ _ | with_reducible exact gw467 | with_reducible refine grownA ?_ | with_reducible refine grownS ?_ ?_ | with_reducible refine grown_drew ?_ | (dsimp only; omega) | (simp; done) | omega))
  have hzgw477 := gw477.size
  have hlcu476 := cu476.lt
  clear c459 c460 c461 c462 c463 z464 R465 cu466 gw467
  refine (c_among b A cs cap (0 + 2 + 100 + 1 + 1 + 1 + 1) _ ([1, 2, 5, 0] : List Int) _ (0) (5) _ cu476 hby (by omega) hl (by rw [hV]; exact Rds.of_lit (by simp) (by intro i x h; rcases i with _ | _ | _ | _ | i <;> simp at h ⊢ <;> first | exact h | omega)) (by simp) (by intro a ha; cases ha; simp; omega) (fun k hk => (show ∀ x ∈ ([1, 2, 5, 0] : List Int), 0 ≤ x ∧ x ≤ 5 by intro x hx; simp at hx; omega) _ (List.getElem_mem hk))).mono ?_
  rintro e W479 ⟨dx478, rfl, hdx478a, hdx478b, hcn, hg⟩
  clear hV
  have hkW479 := hg.size
  have c480 : W479.cell? ⟨w.heap.size, 0, none⟩ = some (.int .i64 0) := (cellRow hg (w.heap.size) 0).trans (by rw [if_pos ⟨by omega, by omega⟩]; exact c469)
  have c481 : W479.cell? ⟨w.heap.size, 1, none⟩ = some (.int .i64 0) := (cellRow hg (w.heap.size) 1).trans (by rw [if_pos ⟨by omega, by omega⟩]; exact c470)
  have c482 : W479.cell? ⟨w.heap.size, 2, none⟩ = some (.int .i64 0) := (cellRow hg (w.heap.size) 2).trans (by rw [if_pos ⟨by omega, by omega⟩]; exact c471)
  have c483 : W479.cell? ⟨w.heap.size, 3, none⟩ = some (.int .i64 0) := (cellRow hg (w.heap.size) 3).trans (by rw [if_pos ⟨by omega, by omega⟩]; exact c472)
  have c484 : W479.cell? ⟨w.heap.size, 4, none⟩ = some (.int .i64 0) := (cellRow hg (w.heap.size) 4).trans (by rw [if_pos ⟨by omega, by omega⟩]; exact c473)
  have z485 : ∀ o, W479.frozen? ⟨w.heap.size, o, none⟩ = false := fun o => (frozRow hg (w.heap.size) o).trans (by rw [if_pos ⟨by omega, by omega⟩]; exact z474 o)
  have R486 : Hid (FreshA cBer 5 48 (V345.heap.size) W479 Af cf xs) := hid (FreshA.rowb R475.out hg (by omega))
  have cu487 : CurS W479 b A cs cap (0 + 2 + 100 + 1 + 1 + 1 + 1 + 1) := hcn
  have gw488 : w.grownBy W479 (some b) := grown_trans gw477 hg
  have hzgw488 := gw488.size
  have hlcu487 := cu487.lt
  clear c469 c470 c471 c472 c473 z474 R475 cu476 gw477
  clear hg
  go_wp2_with (fail)
  refine post_named ?_
  intro VP hV
  have r0 : VP.cell? ⟨w.heap.size, 0, none⟩ = some (.int .i64 (1 + dx395)) := by rw [hV]; first | (simp [go_sem, ↓IntWalk.iteOmega, *]; done) | (simp [go_sem, ↓IntWalk.iteOmega, *]; intros; omega)
  have r1 : VP.cell? ⟨w.heap.size, 1, none⟩ = some (.int .i64 dx436) := by rw [hV]; first | (simp [go_sem, ↓IntWalk.iteOmega, *]; done) | (simp [go_sem, ↓IntWalk.iteOmega, *]; intros; omega)
  have r2 : VP.cell? ⟨w.heap.size, 2, none⟩ = some (.int .i64 dx457) := by rw [hV]; first | (simp [go_sem, ↓IntWalk.iteOmega, *]; done) | (simp [go_sem, ↓IntWalk.iteOmega, *]; intros; omega)
  have r3 : VP.cell? ⟨w.heap.size, 3, none⟩ = some (.int .i64 dx374) := by rw [hV]; first | (simp [go_sem, ↓IntWalk.iteOmega, *]; done) | (simp [go_sem, ↓IntWalk.iteOmega, *]; intros; omega)
  have r4 : VP.cell? ⟨w.heap.size, 4, none⟩ = some (.int .i64 (dx374 + dx478)) := by rw [hV]; first | (simp [go_sem, ↓IntWalk.iteOmega, *]; done) | (simp [go_sem, ↓IntWalk.iteOmega, *]; intros; omega)
  have hkVP : W479.heap.size ≤ VP.heap.size := by rw [hV]; first | with_reducible exact Nat.le_refl _ | (simp [World.setCell]; done) | (simp; omega)
  have R489 : Hid (FreshA cBer 5 48 (V345.heap.size) VP Af cf xs) := hid (by rw [hV]; (repeat' (first | with_reducible exact R486.out | with_reducible refine FreshA.set_at ?_ (by assumption) _ | with_reducible refine FreshA.set_low ?_ ?_ _ | with_reducible refine FreshA.below ?_ (Below.drew (Below.refl _ _)) | with_reducible refine FreshA.below ?_ (Below.alloc (Below.refl _ _) (Nat.le_refl _) _) | (dsimp only; omega) | (simp; done) | (simp; omega))))
  have gw491 : w.grownBy VP (some b) := by rw [hV]; (repeat' (first | with_reducible exact World.grownBy.refl _ _ | with_reducible exact gw488 | with_reducible refine grownA ?_ | with_reducible refine grownS ?_ ?_ | with_reducible refine grown_drew ?_ | (dsimp only; omega) | (simp; done) | omega))
  have hzgw491 := gw491.size
  clear R486 cu487 gw488
  clear hV
  refine bodyPost_ret (v := .tuple #[.int .i64 q, .slice Af xs.length cf, .agg #[.int .i64 (1 + dx395), .int .i64 dx436, .int .i64 dx457, .int .i64 dx374, .int .i64 (dx374 + dx478)]]) ?_ rfl ⟨q, Af, cf, xs, 1 + dx395, dx436, dx457, dx374, dx374 + dx478, rfl, FreshA.mono R489.out (by omega), hxl, by omega, below_gw gw491 (by omega) hB1⟩
  simp [results, Try.results48, go_sem, r0, r1, r2, r3, r4]

end Go.Proofs.Ytfipmalomhflgaa
namespace Go.Proofs.Ytfipmalomhflgaa
set_option linter.unusedSimpArgs false
set_option linter.unusedVariables false
open Go.RowKit

theorem wrap_bd (n : Int) : -9223372036854775808 ≤ wrap64 n ∧ wrap64 n ≤ 9223372036854775807 := by unfold wrap64; omega
set_option maxHeartbeats 2000000 in
theorem c_pick2 (b : Nat) (A : Option Addr) (cs : List Int) (cap : Nat) (m n : Int) (w : World) (hcu : CurS w b A cs cap m) (hby : Bytes cs) (hm : 0 ≤ m ∧ m ≤ 900000000) (hl : cs.length ≤ 1000000000) (hn : n ≤ 9223372036854775807) :
    Calls Try.prog 74 #[.pointer (some ⟨b, 0, none⟩), .int .i64 n] w fun e w' => ∃ x : Int, e = .returned (.int .i64 x) ∧ 0 ≤ x ∧ (x = 0 ∨ x < n) ∧ CurS w' b A cs cap (m + 2) ∧ w.grownBy w' (some b) := by
  by_cases h2 : n ≤ 200
  · refine (c_pick b A cs cap m n w hcu hby hm hl h2).mono ?_
    rintro e w1 ⟨x, rfl, hx0, hx1, hcu1, hg1⟩
    exact ⟨x, rfl, hx0, hx1, CurS.mono hcu1 (by omega), hg1⟩
  go_enter Try.func74, Try.ntmps74
  go_wp2_with (fail)
  refine (c_nextS b A cs cap m _ hcu hby (by omega) hl).mono ?_
  rintro e w1 ⟨x, rfl, hx0, hx1, hcu1, hg1⟩
  go_wp2_with (fail)
  refine (c_nextS b A cs cap (m + 1) _ hcu1 hby (by omega) hl).mono ?_
  rintro e w2 ⟨y, rfl, hy0, hy1, hcu2, hg2⟩
  go_wp2_with (fail)
  have ht := emod_bd (x := x * 256 + y) (n := n) (by omega)
  go_ret
  exact ⟨(x * 256 + y) % n, rfl, ht.1, .inr ht.2, CurS.mono hcu2 (by omega), grown_trans hg1 hg2⟩

def FDle (q y1 y4 y5 : Int) (b gp tb n0 cf : Nat) (iq : Nat) (v : Value) (w1 : World) : Prop := match iq with
  | 0 => v = .int .i64 q
  | 1 => v = .slice (some ⟨gp, 0, none⟩) n0 cf
  | 2 => v = .pointer (some ⟨tb, 0, none⟩)
  | 3 => v = .int .i64 y1
  | 4 => v = .pointer (some ⟨tb, 3, none⟩)
  | 5 => v = .int .i64 y4
  | 6 => v = .pointer (some ⟨b, 0, none⟩)
  | 7 => v = .pointer (some ⟨tb, 4, none⟩)
  | 8 => v = .int .i64 y5
  | 9 => v = .pointer (some ⟨tb, 3, none⟩)
  | 10 => v = .int .i64 y4
  | 11 => XO (-9223372036854775808) 9223372036854775807 v w1
  | 12 => XO (-9223372036854775808) 9223372036854775807 v w1
  | 13 => XO (-9223372036854775808) 9223372036854775807 v w1
  | 14 => XO (-9223372036854775808) 9223372036854775807 v w1
  | 15 => XO (-9223372036854775808) 9223372036854775807 v w1
  | 16 => v = .int .i64 q
  | 17 => v = .slice (some ⟨gp, 0, none⟩) n0 cf
  | 18 => v = .int .i64 y1
  | 19 => XO (-9223372036854775808) 9223372036854775807 v w1
  | _ => True
set_option maxRecDepth 100000 in
set_option maxHeartbeats 8000000 in
theorem c_spec_DrawLeaveEarly (A : Option Addr) (cs : List Int) (cap : Nat) (w : World) (hr : Rds cB 1 w A cs) (hby : Bytes cs) (hl : cs.length ≤ 1000000000) :
    Calls Try.prog 50 #[.slice A cs.length cap] w fun e w' => ∃ (q : Int) (Af : Option Addr) (cf : Nat) (xs : List (Int × Int × Int × Int × Int)) (z h : Int), e = .returned (.tuple #[.int .i64 q, .slice Af xs.length cf, .int .i64 z, .int .i64 h]) ∧ FreshA cBer 5 48 w.heap.size w' Af cf xs ∧ xs.length ≤ 12 ∧ Below w.heap.size w w' := by
  obtain ⟨B0, hB0⟩ : ∃ B0, B0 = w.heap.size := ⟨_, rfl⟩
  rw [← hB0]
  have hB1 : B0 ≤ w.heap.size := by omega
  have hB2 : w.heap.size ≤ B0 := by omega
  clear hB0
  go_enter Try.func50, Try.ntmps50
  go_wp2_with (fail)
  refine calls_named ?_
  intro V1 hV
  have hcu : CurS V1 (w.heap.size) A cs cap 0 := by rw [hV]; exact CurS.new hr (by (repeat' (first | exact Below.refl _ _ | assumption | refine Below.setCell ?_ ?_ _ | refine Below.drew ?_ | refine Below.alloc ?_ ?_ _ | refine Below.trans ?_ (Below.mono (by assumption) ?_) | (simp; done) | (simp; omega) | omega))) (by simp)
  have gw0 : w.grownBy V1 (some (w.heap.size)) := by rw [hV]; (repeat' (first | with_reducible exact World.grownBy.refl _ _ | with_reducible assumption | with_reducible refine grownA ?_ | with_reducible refine grownS ?_ ?_ | with_reducible refine grown_drew ?_ | (dsimp only; omega) | (simp; done) | omega))
  clear hV
  have hltb := hcu.lt
  obtain ⟨b, hbd1, hbd2, hbd⟩ : ∃ b, b ≤ w.heap.size ∧ w.heap.size ≤ b ∧ b = w.heap.size := ⟨_, Nat.le_refl _, Nat.le_refl _, rfl⟩
  rw [← hbd] at hcu gw0 hltb ⊢
  clear hbd
  refine (c_quay b A cs cap (0) _ hcu hby (by omega) hl).mono ?_
  rintro e W562 ⟨q, rfl, hqa, hqb, hcn, hg⟩
  have hkW562 := hg.size
  have cu563 : CurS W562 b A cs cap (0 + 2) := hcn
  have gw564 : w.grownBy W562 (some b) := grown_trans gw0 hg
  have hzgw564 := gw564.size
  have hlcu563 := cu563.lt
  clear gw0
  clear hg
  go_wp2_with (fail)
  refine calls_named ?_
  intro V565 hV
  have hkV565 : W562.heap.size ≤ V565.heap.size := by rw [hV]; first | with_reducible exact Nat.le_refl _ | (simp [World.setCell]; done) | (simp; omega)
  have cu566 : CurS V565 b A cs cap (0 + 2) := by rw [hV]; (repeat' (first | with_reducible refine CurS.setc ?_ ?_ | with_reducible refine CurS.allo ?_ | with_reducible refine CurS.drw ?_ | with_reducible exact cu563 | (dsimp only; omega) | (simp; done) | (simp; omega)))
  have gw567 : w.grownBy V565 (some b) := by rw [hV]; (repeat' (first | with_reducible exact World.grownBy.refl _ _ | with_reducible exact gw564 | with_reducible refine grownA ?_ | with_reducible refine grownS ?_ ?_ | with_reducible refine grown_drew ?_ | (dsimp only; omega) | (simp; done) | omega))
  have hzgw567 := gw567.size
  have hlcu566 := cu566.lt
  clear cu563 gw564
  clear hV
  refine (c_berthing b A cs cap (0 + 2) q _ cu566 hby (by omega) hl (by omega)).mono ?_
  rintro e W568 ⟨Af, cf, xs, rfl, hFf, hxl, hcn, hg⟩
  have hkW568 := hg.size
  have cu569 : CurS W568 b A cs cap (0 + 2 + 100) := hcn
  have gw570 : w.grownBy W568 (some b) := grown_trans gw567 hg
  have hzgw570 := gw570.size
  have hlcu569 := cu569.lt
  clear cu566 gw567
  clear hg
  have S571 : Hid (FreshA cBer 5 48 (V565.heap.size) W568 Af cf xs) := hid (hFf)
  clear hFf
  have hPb : w.heap.size ≤ V565.heap.size := by omega
  by_cases hx0 : 0 < xs.length
  rotate_left
  · go_wp2_with (fail)
    refine calls_named ?_
    intro V572 hV
    have hkV572 : W568.heap.size ≤ V572.heap.size := by rw [hV]; first | with_reducible exact Nat.le_refl _ | (simp [World.setCell]; done) | (simp; omega)
    have R573 : Hid (FreshA cBer 5 48 (V565.heap.size) V572 Af cf xs) := hid (by rw [hV]; (repeat' (first | with_reducible exact S571.out | with_reducible refine FreshA.set_at ?_ (by assumption) _ | with_reducible refine FreshA.set_low ?_ ?_ _ | with_reducible refine FreshA.below ?_ (Below.drew (Below.refl _ _)) | with_reducible refine FreshA.below ?_ (Below.alloc (Below.refl _ _) (Nat.le_refl _) _) | (dsimp only; omega) | (simp; done) | (simp; omega))))
    have cu574 : CurS V572 b A cs cap (0 + 2 + 100) := by rw [hV]; (repeat' (first | with_reducible refine CurS.setc ?_ ?_ | with_reducible refine CurS.allo ?_ | with_reducible refine CurS.drw ?_ | with_reducible exact cu569 | (dsimp only; omega) | (simp; done) | (simp; omega)))
    have gw575 : w.grownBy V572 (some b) := by rw [hV]; (repeat' (first | with_reducible exact World.grownBy.refl _ _ | with_reducible exact gw570 | with_reducible refine grownA ?_ | with_reducible refine grownS ?_ ?_ | with_reducible refine grown_drew ?_ | (dsimp only; omega) | (simp; done) | omega))
    have hzgw575 := gw575.size
    have hlcu574 := cu574.lt
    clear S571 cu569 gw570
    refine (c_among b A cs cap (0 + 2 + 100) _ ([0, 1, 50] : List Int) _ (0) (50) _ cu574 hby (by omega) hl (by rw [hV]; exact Rds.of_lit (by simp) (by intro i x h; rcases i with _ | _ | _ | i <;> simp at h ⊢ <;> first | exact h | omega)) (by simp) (by intro a ha; cases ha; simp; omega) (fun k hk => (show ∀ x ∈ ([0, 1, 50] : List Int), 0 ≤ x ∧ x ≤ 50 by intro x hx; simp at hx; omega) _ (List.getElem_mem hk))).mono ?_
    rintro e W577 ⟨dx576, rfl, hdx576a, hdx576b, hcn, hg⟩
    clear hV
    have hkW577 := hg.size
    have R578 : Hid (FreshA cBer 5 48 (V565.heap.size) W577 Af cf xs) := hid (FreshA.rowb R573.out hg (by omega))
    have cu579 : CurS W577 b A cs cap (0 + 2 + 100 + 1) := hcn
    have gw580 : w.grownBy W577 (some b) := grown_trans gw575 hg
    have hzgw580 := gw580.size
    have hlcu579 := cu579.lt
    clear R573 cu574 gw575
    clear hg
    go_wp2_with (fail)
    refine calls_named ?_
    intro V581 hV
    have hkV581 : W577.heap.size ≤ V581.heap.size := by rw [hV]; first | with_reducible exact Nat.le_refl _ | (simp [World.setCell]; done) | (simp; omega)
    have R582 : Hid (FreshA cBer 5 48 (V565.heap.size) V581 Af cf xs) := hid (by rw [hV]; (repeat' (first | with_reducible exact R578.out | with_reducible refine FreshA.set_at ?_ (by assumption) _ | with_reducible refine FreshA.set_low ?_ ?_ _ | with_reducible refine FreshA.below ?_ (Below.drew (Below.refl _ _)) | with_reducible refine FreshA.below ?_ (Below.alloc (Below.refl _ _) (Nat.le_refl _) _) | (dsimp only; omega) | (simp; done) | (simp; omega))))
    have cu583 : CurS V581 b A cs cap (0 + 2 + 100 + 1) := by rw [hV]; (repeat' (first | with_reducible refine CurS.setc ?_ ?_ | with_reducible refine CurS.allo ?_ | with_reducible refine CurS.drw ?_ | with_reducible exact cu579 | (dsimp only; omega) | (simp; done) | (simp; omega)))
    have gw584 : w.grownBy V581 (some b) := by rw [hV]; (repeat' (first | with_reducible exact World.grownBy.refl _ _ | with_reducible exact gw580 | with_reducible refine grownA ?_ | with_reducible refine grownS ?_ ?_ | with_reducible refine grown_drew ?_ | (dsimp only; omega) | (simp; done) | omega))
    have hzgw584 := gw584.size
    have hlcu583 := cu583.lt
    clear R578 cu579 gw580
    clear hV
    refine (c_hour16 b A cs cap (0 + 2 + 100 + 1) _ cu583 hby (by omega) hl).mono ?_
    rintro e W585 ⟨hh, rfl, hh1, hh2, hcn, hg⟩
    have hkW585 := hg.size
    have R586 : Hid (FreshA cBer 5 48 (V565.heap.size) W585 Af cf xs) := hid (FreshA.rowb R582.out hg (by omega))
    have cu587 : CurS W585 b A cs cap (0 + 2 + 100 + 1 + 2) := hcn
    have gw588 : w.grownBy W585 (some b) := grown_trans gw584 hg
    have hzgw588 := gw588.size
    have hlcu587 := cu587.lt
    clear R582 cu583 gw584
    clear hg
    go_wp2_with (fail)
    refine post_named ?_
    intro VP hV
    have hkVP : W585.heap.size ≤ VP.heap.size := by rw [hV]; first | with_reducible exact Nat.le_refl _ | (simp [World.setCell]; done) | (simp; omega)
    have R589 : Hid (FreshA cBer 5 48 (V565.heap.size) VP Af cf xs) := hid (by rw [hV]; (repeat' (first | with_reducible exact R586.out | with_reducible refine FreshA.set_at ?_ (by assumption) _ | with_reducible refine FreshA.set_low ?_ ?_ _ | with_reducible refine FreshA.below ?_ (Below.drew (Below.refl _ _)) | with_reducible refine FreshA.below ?_ (Below.alloc (Below.refl _ _) (Nat.le_refl _) _) | (dsimp only; omega) | (simp; done) | (simp; omega))))
    have gw591 : w.grownBy VP (some b) := by rw [hV]; (repeat' (first | with_reducible exact World.grownBy.refl _ _ | with_reducible exact gw588 | with_reducible refine grownA ?_ | with_reducible refine grownS ?_ ?_ | with_reducible refine grown_drew ?_ | (dsimp only; omega) | (simp; done) | omega))
    have hzgw591 := gw591.size
    clear R586 cu587 gw588
    clear hV
    refine bodyPost_ret (v := .tuple #[.int .i64 q, .slice Af xs.length cf, .int .i64 dx576, .int .i64 hh]) ?_ rfl ⟨q, Af, cf, xs, dx576, hh, rfl, FreshA.mono R589.out (by omega), hxl, below_gw gw591 (by omega) hB1⟩
    simp [results, Try.results50, go_sem]
  go_wp2_with (fail)
  refine calls_named ?_
  intro V592 hV
  have hkV592 : W568.heap.size ≤ V592.heap.size := by rw [hV]; first | with_reducible exact Nat.le_refl _ | (simp [World.setCell]; done) | (simp; omega)
  have R593 : Hid (FreshA cBer 5 48 (V565.heap.size) V592 Af cf xs) := hid (by rw [hV]; (repeat' (first | with_reducible exact S571.out | with_reducible refine FreshA.set_at ?_ (by assumption) _ | with_reducible refine FreshA.set_low ?_ ?_ _ | with_reducible refine FreshA.below ?_ (Below.drew (Below.refl _ _)) | with_reducible refine FreshA.below ?_ (Below.alloc (Below.refl _ _) (Nat.le_refl _) _) | (dsimp only; omega) | (simp; done) | (simp; omega))))
  have cu594 : CurS V592 b A cs cap (0 + 2 + 100) := by rw [hV]; (repeat' (first | with_reducible refine CurS.setc ?_ ?_ | with_reducible refine CurS.allo ?_ | with_reducible refine CurS.drw ?_ | with_reducible exact cu569 | (dsimp only; omega) | (simp; done) | (simp; omega)))
  have gw595 : w.grownBy V592 (some b) := by rw [hV]; (repeat' (first | with_reducible exact World.grownBy.refl _ _ | with_reducible exact gw570 | with_reducible refine grownA ?_ | with_reducible refine grownS ?_ ?_ | with_reducible refine grown_drew ?_ | (dsimp only; omega) | (simp; done) | omega))
  have hzgw595 := gw595.size
  have hlcu594 := cu594.lt
  clear S571 cu569 gw570
  clear hV
  refine (c_one b A cs cap (0 + 2 + 100) 6 _ cu594 hby (by omega) hl (by omega)).mono ?_
  rintro e W597 ⟨y596, rfl, hcn, hg⟩
  have hkW597 := hg.size
  have R598 : Hid (FreshA cBer 5 48 (V565.heap.size) W597 Af cf xs) := hid (FreshA.rowb R593.out hg (by omega))
  have cu599 : CurS W597 b A cs cap (0 + 2 + 100 + 1) := hcn
  have gw600 : w.grownBy W597 (some b) := grown_trans gw595 hg
  have hzgw600 := gw600.size
  have hlcu599 := cu599.lt
  clear R593 cu594 gw595
  clear hg
  cases y596
  rotate_left
  · go_wp2_with (fail)
    refine calls_named ?_
    intro V601 hV
    have hkV601 : W597.heap.size ≤ V601.heap.size := by rw [hV]; first | with_reducible exact Nat.le_refl _ | (simp [World.setCell]; done) | (simp; omega)
    have R602 : Hid (FreshA cBer 5 48 (V565.heap.size) V601 Af cf xs) := hid (by rw [hV]; (repeat' (first | with_reducible exact R598.out | with_reducible refine FreshA.set_at ?_ (by assumption) _ | with_reducible refine FreshA.set_low ?_ ?_ _ | with_reducible refine FreshA.below ?_ (Below.drew (Below.refl _ _)) | with_reducible refine FreshA.below ?_ (Below.alloc (Below.refl _ _) (Nat.le_refl _) _) | (dsimp only; omega) | (simp; done) | (simp; omega))))
    have cu603 : CurS V601 b A cs cap (0 + 2 + 100 + 1) := by rw [hV]; (repeat' (first | with_reducible refine CurS.setc ?_ ?_ | with_reducible refine CurS.allo ?_ | with_reducible refine CurS.drw ?_ | with_reducible exact cu599 | (dsimp only; omega) | (simp; done) | (simp; omega)))
    have gw604 : w.grownBy V601 (some b) := by rw [hV]; (repeat' (first | with_reducible exact World.grownBy.refl _ _ | with_reducible exact gw600 | with_reducible refine grownA ?_ | with_reducible refine grownS ?_ ?_ | with_reducible refine grown_drew ?_ | (dsimp only; omega) | (simp; done) | omega))
    have hzgw604 := gw604.size
    have hlcu603 := cu603.lt
    clear R598 cu599 gw600
    refine (c_among b A cs cap (0 + 2 + 100 + 1) _ ([0, 1, 50] : List Int) _ (0) (50) _ cu603 hby (by omega) hl (by rw [hV]; exact Rds.of_lit (by simp) (by intro i x h; rcases i with _ | _ | _ | i <;> simp at h ⊢ <;> first | exact h | omega)) (by simp) (by intro a ha; cases ha; simp; omega) (fun k hk => (show ∀ x ∈ ([0, 1, 50] : List Int), 0 ≤ x ∧ x ≤ 50 by intro x hx; simp at hx; omega) _ (List.getElem_mem hk))).mono ?_
    rintro e W606 ⟨dx605, rfl, hdx605a, hdx605b, hcn, hg⟩
    clear hV
    have hkW606 := hg.size
    have R607 : Hid (FreshA cBer 5 48 (V565.heap.size) W606 Af cf xs) := hid (FreshA.rowb R602.out hg (by omega))
    have cu608 : CurS W606 b A cs cap (0 + 2 + 100 + 1 + 1) := hcn
    have gw609 : w.grownBy W606 (some b) := grown_trans gw604 hg
    have hzgw609 := gw609.size
    have hlcu608 := cu608.lt
    clear R602 cu603 gw604
    clear hg
    go_wp2_with (fail)
    refine calls_named ?_
    intro V610 hV
    have hkV610 : W606.heap.size ≤ V610.heap.size := by rw [hV]; first | with_reducible exact Nat.le_refl _ | (simp [World.setCell]; done) | (simp; omega)
    have R611 : Hid (FreshA cBer 5 48 (V565.heap.size) V610 Af cf xs) := hid (by rw [hV]; (repeat' (first | with_reducible exact R607.out | with_reducible refine FreshA.set_at ?_ (by assumption) _ | with_reducible refine FreshA.set_low ?_ ?_ _ | with_reducible refine FreshA.below ?_ (Below.drew (Below.refl _ _)) | with_reducible refine FreshA.below ?_ (Below.alloc (Below.refl _ _) (Nat.le_refl _) _) | (dsimp only; omega) | (simp; done) | (simp; omega))))
    have cu612 : CurS V610 b A cs cap (0 + 2 + 100 + 1 + 1) := by rw [hV]; (repeat' (first | with_reducible refine CurS.setc ?_ ?_ | with_reducible refine CurS.allo ?_ | with_reducible refine CurS.drw ?_ | with_reducible exact cu608 | (dsimp only; omega) | (simp; done) | (simp; omega)))
    have gw613 : w.grownBy V610 (some b) := by rw [hV]; (repeat' (first | with_reducible exact World.grownBy.refl _ _ | with_reducible exact gw609 | with_reducible refine grownA ?_ | with_reducible refine grownS ?_ ?_ | with_reducible refine grown_drew ?_ | (dsimp only; omega) | (simp; done) | omega))
    have hzgw613 := gw613.size
    have hlcu612 := cu612.lt
    clear R607 cu608 gw609
    clear hV
    refine (c_hour16 b A cs cap (0 + 2 + 100 + 1 + 1) _ cu612 hby (by omega) hl).mono ?_
    rintro e W614 ⟨hh, rfl, hh1, hh2, hcn, hg⟩
    have hkW614 := hg.size
    have R615 : Hid (FreshA cBer 5 48 (V565.heap.size) W614 Af cf xs) := hid (FreshA.rowb R611.out hg (by omega))
    have cu616 : CurS W614 b A cs cap (0 + 2 + 100 + 1 + 1 + 2) := hcn
    have gw617 : w.grownBy W614 (some b) := grown_trans gw613 hg
    have hzgw617 := gw617.size
    have hlcu616 := cu616.lt
    clear R611 cu612 gw613
    clear hg
    go_wp2_with (fail)
    refine post_named ?_
    intro VP hV
    have hkVP : W614.heap.size ≤ VP.heap.size := by rw [hV]; first | with_reducible exact Nat.le_refl _ | (simp [World.setCell]; done) | (simp; omega)
    have R618 : Hid (FreshA cBer 5 48 (V565.heap.size) VP Af cf xs) := hid (by rw [hV]; (repeat' (first | with_reducible exact R615.out | with_reducible refine FreshA.set_at ?_ (by assumption) _ | with_reducible refine FreshA.set_low ?_ ?_ _ | with_reducible refine FreshA.below ?_ (Below.drew (Below.refl _ _)) | with_reducible refine FreshA.below ?_ (Below.alloc (Below.refl _ _) (Nat.le_refl _) _) | (dsimp only; omega) | (simp; done) | (simp; omega))))
    have gw620 : w.grownBy VP (some b) := by rw [hV]; (repeat' (first | with_reducible exact World.grownBy.refl _ _ | with_reducible exact gw617 | with_reducible refine grownA ?_ | with_reducible refine grownS ?_ ?_ | with_reducible refine grown_drew ?_ | (dsimp only; omega) | (simp; done) | omega))
    have hzgw620 := gw620.size
    clear R615 cu616 gw617
    clear hV
    refine bodyPost_ret (v := .tuple #[.int .i64 q, .slice Af xs.length cf, .int .i64 dx605, .int .i64 hh]) ?_ rfl ⟨q, Af, cf, xs, dx605, hh, rfl, FreshA.mono R618.out (by omega), hxl, below_gw gw620 (by omega) hB1⟩
    simp [results, Try.results50, go_sem]
  obtain ⟨gp, rfl, hBp, hOp⟩ := FreshA.row R598.out hx0
  clear hOp
  go_wp2_with (fail)
  refine calls_named ?_
  intro V621 hV
  have hkV621 : W597.heap.size ≤ V621.heap.size := by rw [hV]; first | with_reducible exact Nat.le_refl _ | (simp [World.setCell]; done) | (simp; omega)
  have R622 : Hid (FreshA cBer 5 48 (V565.heap.size) V621 ((some ⟨gp, 0, none⟩)) cf xs) := hid (by rw [hV]; (repeat' (first | with_reducible exact R598.out | with_reducible refine FreshA.set_at ?_ (by assumption) _ | with_reducible refine FreshA.set_low ?_ ?_ _ | with_reducible refine FreshA.below ?_ (Below.drew (Below.refl _ _)) | with_reducible refine FreshA.below ?_ (Below.alloc (Below.refl _ _) (Nat.le_refl _) _) | (dsimp only; omega) | (simp; done) | (simp; omega))))
  have cu623 : CurS V621 b A cs cap (0 + 2 + 100 + 1) := by rw [hV]; (repeat' (first | with_reducible refine CurS.setc ?_ ?_ | with_reducible refine CurS.allo ?_ | with_reducible refine CurS.drw ?_ | with_reducible exact cu599 | (dsimp only; omega) | (simp; done) | (simp; omega)))
  have gw624 : w.grownBy V621 (some b) := by rw [hV]; (repeat' (first | with_reducible exact World.grownBy.refl _ _ | with_reducible exact gw600 | with_reducible refine grownA ?_ | with_reducible refine grownS ?_ ?_ | with_reducible refine grown_drew ?_ | (dsimp only; omega) | (simp; done) | omega))
  have hzgw624 := gw624.size
  have hlcu623 := cu623.lt
  clear R598 cu599 gw600
  clear hV
  refine (c_pick b A cs cap (0 + 2 + 100 + 1) _ _ cu623 hby (by omega) hl (by omega)).mono ?_
  rintro e W626 ⟨dx625, rfl, hdx625a, hdx625b, hcn, hg⟩
  have hkW626 := hg.size
  have R627 : Hid (FreshA cBer 5 48 (V565.heap.size) W626 ((some ⟨gp, 0, none⟩)) cf xs) := hid (FreshA.rowb R622.out hg (by omega))
  have cu628 : CurS W626 b A cs cap (0 + 2 + 100 + 1 + 1) := hcn
  have gw629 : w.grownBy W626 (some b) := grown_trans gw624 hg
  have hzgw629 := gw629.size
  have hlcu628 := cu628.lt
  clear R622 cu623 gw624
  clear hg
  obtain ⟨k0, rfl⟩ : ∃ k : Nat, dx625 = k := ⟨dx625.toNat, by omega⟩
  have hk0 : k0 < xs.length := by omega
  obtain ⟨b9, o9, hge9, hb9, hc9⟩ := (R627.out).rds k0 xs[k0] (List.getElem?_eq_getElem hk0)
  cases hge9
  have hy0 := hc9 0 _ rfl
  have hy1 := hc9 1 _ rfl
  have hy2 := hc9 2 _ rfl
  have hy3 := hc9 3 _ rfl
  have hy4 := hc9 4 _ rfl
  simp only [Nat.add_zero, Nat.mul_one, Nat.zero_add] at hy0 hy1 hy2 hy3 hy4
  clear hc9
  generalize xs[k0] = y at hy0 hy1 hy2 hy3 hy4
  have hgb : b < gp := by omega
  go_wp2_with (fail)
  refine wp_named ?_
  intro V630 hV
  have hkV630 : W626.heap.size ≤ V630.heap.size := by rw [hV]; first | with_reducible exact Nat.le_refl _ | (simp [World.setCell]; done) | (simp; omega)
  have R631 : Hid (FreshA cBer 5 48 (V565.heap.size) V630 ((some ⟨gp, 0, none⟩)) cf xs) := hid (by rw [hV]; (repeat' (first | with_reducible exact R627.out | with_reducible refine FreshA.set_at ?_ (by assumption) _ | with_reducible refine FreshA.set_low ?_ ?_ _ | with_reducible refine FreshA.below ?_ (Below.drew (Below.refl _ _)) | with_reducible refine FreshA.below ?_ (Below.alloc (Below.refl _ _) (Nat.le_refl _) _) | (dsimp only; omega) | (simp; done) | (simp; omega))))
  have cu632 : CurS V630 b A cs cap (0 + 2 + 100 + 1 + 1) := by rw [hV]; (repeat' (first | with_reducible refine CurS.setc ?_ ?_ | with_reducible refine CurS.allo ?_ | with_reducible refine CurS.drw ?_ | with_reducible exact cu628 | (dsimp only; omega) | (simp; done) | (simp; omega)))
  have gw633 : w.grownBy V630 (some b) := by rw [hV]; (repeat' (first | with_reducible exact World.grownBy.refl _ _ | with_reducible exact gw629 | with_reducible refine grownA ?_ | with_reducible refine grownS ?_ ?_ | with_reducible refine grown_drew ?_ | (dsimp only; omega) | (simp; done) | omega))
  have hzgw633 := gw633.size
  have hlcu632 := cu632.lt
  clear R627 cu628 gw629
  have d634 : V630.cell? ⟨W626.heap.size, 0, none⟩ = some (.int .i64 y.1) := by rw [hV]; first | (simp [go_sem, ↓IntWalk.iteOmega, *]; done) | (simp [go_sem, ↓IntWalk.iteOmega, *]; intros; omega)
  have d635 : V630.cell? ⟨W626.heap.size, 3, none⟩ = some (.int .i64 y.2.2.2.1) := by rw [hV]; first | (simp [go_sem, ↓IntWalk.iteOmega, *]; done) | (simp [go_sem, ↓IntWalk.iteOmega, *]; intros; omega)
  have d636 : V630.cell? ⟨W626.heap.size, 4, none⟩ = some (.int .i64 y.2.2.2.2) := by rw [hV]; first | (simp [go_sem, ↓IntWalk.iteOmega, *]; done) | (simp [go_sem, ↓IntWalk.iteOmega, *]; intros; omega)
  have hTB : W626.heap.size < V630.heap.size := by rw [hV]; first | (simp; done) | (simp [World.setCell]; done) | (simp; omega)
  clear hV hy0 hy1 hy2 hy3 hy4
  generalize htb : W626.heap.size = tb at *
  generalize y.1 = y1 at *
  generalize y.2.2.2.1 = y4 at *
  generalize y.2.2.2.2 = y5 at *
  refine wp_region_c (n := 20) b (fun k w' => CurS w' b A cs cap (0 + 2 + 100 + 1 + 1 + 2 * k)) [] (FDle q y1 y4 y5 b gp tb xs.length cf) rfl (by kernel_rfl) (fun _ _ d _ _ h => by cases d <;> exact h) (CurS.mono (CurS.drw cu632) (by omega)) ?_ (fun i hi => absurd hi (by simp)) ?_ ?_
  · intro iq v w1 w2 hF hg
    match iq with
    | 0 => exact hF
    | 1 => exact hF
    | 2 => exact hF
    | 3 => exact hF
    | 4 => exact hF
    | 5 => exact hF
    | 6 => exact hF
    | 7 => exact hF
    | 8 => exact hF
    | 9 => exact hF
    | 10 => exact hF
    | 11 => exact hF
    | 12 => exact hF
    | 13 => exact hF
    | 14 => exact hF
    | 15 => exact hF
    | 16 => exact hF
    | 17 => exact hF
    | 18 => exact hF
    | 19 => exact hF
    | q + 20 => exact (show True from trivial)
  · intro iq o hi ho vals k w1 hk hT hgW hf
    match iq, hi with
    | 0, _ =>
      injection ho with ho
      subst ho
      clear hf
      have hz1 := hgW.size
      have hlt1 := CurS.lt hT
      simp only [fillA, List.take, List.drop, put_none, Act.put, List.setIfInBounds_toArray, List.set_cons_zero, List.set_cons_succ, Nat.reduceAdd]
      go_wp2_with (fail)
      exact ⟨rfl, rfl, World.grownBy.refl _ _, CurS.mono hT (by omega), (by first | rfl | (simp [FDle]; done) | (simp [FDle, *]; done) | (simp [FDle, gotV]; done) | (simp [FDle, gotV, *]; done)), fun h => absurd h (by decide)⟩
    | 1, _ =>
      injection ho with ho
      subst ho
      clear hf
      have hz1 := hgW.size
      have hlt1 := CurS.lt hT
      simp only [fillA, List.take, List.drop, put_none, Act.put, List.setIfInBounds_toArray, List.set_cons_zero, List.set_cons_succ, Nat.reduceAdd]
      go_wp2_with (fail)
      exact ⟨rfl, rfl, World.grownBy.refl _ _, CurS.mono hT (by omega), (by first | rfl | (simp [FDle]; done) | (simp [FDle, *]; done) | (simp [FDle, gotV]; done) | (simp [FDle, gotV, *]; done)), fun h => absurd h (by decide)⟩
    | 2, _ =>
      injection ho with ho
      subst ho
      clear hf
      have hz1 := hgW.size
      have hlt1 := CurS.lt hT
      simp only [fillA, List.take, List.drop, put_none, Act.put, List.setIfInBounds_toArray, List.set_cons_zero, List.set_cons_succ, Nat.reduceAdd]
      go_wp2_with (fail)
      exact ⟨rfl, rfl, World.grownBy.refl _ _, CurS.mono hT (by omega), (by first | rfl | (simp [FDle]; done) | (simp [FDle, *]; done) | (simp [FDle, gotV]; done) | (simp [FDle, gotV, *]; done)), fun h => absurd h (by decide)⟩
    | 3, _ =>
      injection ho with ho
      subst ho
      have e2 : vals 2 = .pointer (some ⟨tb, 0, none⟩) := hf 2 (by decide) (by kernel_rfl)
      clear hf
      have hz1 := hgW.size
      have hlt1 := CurS.lt hT
      simp only [fillA, List.take, List.drop, put_none, Act.put, List.setIfInBounds_toArray, List.set_cons_zero, List.set_cons_succ, Nat.reduceAdd, e2]
      have k0 : w1.cell? ⟨tb, 0, none⟩ = some (.int .i64 y1) := (cellRow hgW (tb) 0).trans (by rw [if_pos ⟨by omega, by omega⟩]; exact d634)
      go_wp2_with (fail)
      exact ⟨rfl, rfl, World.grownBy.refl _ _, CurS.mono hT (by omega), (by first | rfl | (simp [FDle]; done) | (simp [FDle, *]; done) | (simp [FDle, gotV]; done) | (simp [FDle, gotV, *]; done)), fun h => absurd h (by decide)⟩
    | 4, _ =>
      injection ho with ho
      subst ho
      clear hf
      have hz1 := hgW.size
      have hlt1 := CurS.lt hT
      simp only [fillA, List.take, List.drop, put_none, Act.put, List.setIfInBounds_toArray, List.set_cons_zero, List.set_cons_succ, Nat.reduceAdd]
      go_wp2_with (fail)
      exact ⟨rfl, rfl, World.grownBy.refl _ _, CurS.mono hT (by omega), (by first | rfl | (simp [FDle]; done) | (simp [FDle, *]; done) | (simp [FDle, gotV]; done) | (simp [FDle, gotV, *]; done)), fun h => absurd h (by decide)⟩
    | 5, _ =>
      injection ho with ho
      subst ho
      have e4 : vals 4 = .pointer (some ⟨tb, 3, none⟩) := hf 4 (by decide) (by kernel_rfl)
      clear hf
      have hz1 := hgW.size
      have hlt1 := CurS.lt hT
      simp only [fillA, List.take, List.drop, put_none, Act.put, List.setIfInBounds_toArray, List.set_cons_zero, List.set_cons_succ, Nat.reduceAdd, e4]
      have k0 : w1.cell? ⟨tb, 3, none⟩ = some (.int .i64 y4) := (cellRow hgW (tb) 3).trans (by rw [if_pos ⟨by omega, by omega⟩]; exact d635)
      go_wp2_with (fail)
      exact ⟨rfl, rfl, World.grownBy.refl _ _, CurS.mono hT (by omega), (by first | rfl | (simp [FDle]; done) | (simp [FDle, *]; done) | (simp [FDle, gotV]; done) | (simp [FDle, gotV, *]; done)), fun h => absurd h (by decide)⟩
    | 6, _ =>
      injection ho with ho
      subst ho
      clear hf
      have hz1 := hgW.size
      have hlt1 := CurS.lt hT
      simp only [fillA, List.take, List.drop, put_none, Act.put, List.setIfInBounds_toArray, List.set_cons_zero, List.set_cons_succ, Nat.reduceAdd]
      go_wp2_with (fail)
      exact ⟨rfl, rfl, World.grownBy.refl _ _, CurS.mono hT (by omega), (by first | rfl | (simp [FDle]; done) | (simp [FDle, *]; done) | (simp [FDle, gotV]; done) | (simp [FDle, gotV, *]; done)), fun h => absurd h (by decide)⟩
    | 7, _ =>
      injection ho with ho
      subst ho
      clear hf
      have hz1 := hgW.size
      have hlt1 := CurS.lt hT
      simp only [fillA, List.take, List.drop, put_none, Act.put, List.setIfInBounds_toArray, List.set_cons_zero, List.set_cons_succ, Nat.reduceAdd]
      go_wp2_with (fail)
      exact ⟨rfl, rfl, World.grownBy.refl _ _, CurS.mono hT (by omega), (by first | rfl | (simp [FDle]; done) | (simp [FDle, *]; done) | (simp [FDle, gotV]; done) | (simp [FDle, gotV, *]; done)), fun h => absurd h (by decide)⟩
    | 8, _ =>
      injection ho with ho
      subst ho
      have e7 : vals 7 = .pointer (some ⟨tb, 4, none⟩) := hf 7 (by decide) (by kernel_rfl)
      clear hf
      have hz1 := hgW.size
      have hlt1 := CurS.lt hT
      simp only [fillA, List.take, List.drop, put_none, Act.put, List.setIfInBounds_toArray, List.set_cons_zero, List.set_cons_succ, Nat.reduceAdd, e7]
      have k0 : w1.cell? ⟨tb, 4, none⟩ = some (.int .i64 y5) := (cellRow hgW (tb) 4).trans (by rw [if_pos ⟨by omega, by omega⟩]; exact d636)
      go_wp2_with (fail)
      exact ⟨rfl, rfl, World.grownBy.refl _ _, CurS.mono hT (by omega), (by first | rfl | (simp [FDle]; done) | (simp [FDle, *]; done) | (simp [FDle, gotV]; done) | (simp [FDle, gotV, *]; done)), fun h => absurd h (by decide)⟩
    | 9, _ =>
      injection ho with ho
      subst ho
      clear hf
      have hz1 := hgW.size
      have hlt1 := CurS.lt hT
      simp only [fillA, List.take, List.drop, put_none, Act.put, List.setIfInBounds_toArray, List.set_cons_zero, List.set_cons_succ, Nat.reduceAdd]
      go_wp2_with (fail)
      exact ⟨rfl, rfl, World.grownBy.refl _ _, CurS.mono hT (by omega), (by first | rfl | (simp [FDle]; done) | (simp [FDle, *]; done) | (simp [FDle, gotV]; done) | (simp [FDle, gotV, *]; done)), fun h => absurd h (by decide)⟩
    | 10, _ =>
      injection ho with ho
      subst ho
      have e9 : vals 9 = .pointer (some ⟨tb, 3, none⟩) := hf 9 (by decide) (by kernel_rfl)
      clear hf
      have hz1 := hgW.size
      have hlt1 := CurS.lt hT
      simp only [fillA, List.take, List.drop, put_none, Act.put, List.setIfInBounds_toArray, List.set_cons_zero, List.set_cons_succ, Nat.reduceAdd, e9]
      have k0 : w1.cell? ⟨tb, 3, none⟩ = some (.int .i64 y4) := (cellRow hgW (tb) 3).trans (by rw [if_pos ⟨by omega, by omega⟩]; exact d635)
      go_wp2_with (fail)
      exact ⟨rfl, rfl, World.grownBy.refl _ _, CurS.mono hT (by omega), (by first | rfl | (simp [FDle]; done) | (simp [FDle, *]; done) | (simp [FDle, gotV]; done) | (simp [FDle, gotV, *]; done)), fun h => absurd h (by decide)⟩
    | 11, _ =>
      injection ho with ho
      subst ho
      have e8 : vals 8 = .int .i64 y5 := hf 8 (by decide) (by kernel_rfl)
      have e10 : vals 10 = .int .i64 y4 := hf 10 (by decide) (by kernel_rfl)
      clear hf
      have hz1 := hgW.size
      have hlt1 := CurS.lt hT
      simp only [fillA, List.take, List.drop, put_none, Act.put, List.setIfInBounds_toArray, List.set_cons_zero, List.set_cons_succ, Nat.reduceAdd, e8, e10]
      go_wp2_with (fail)
      exact RQO_of (.int .i64 (wrap64 (y5 - y4))) rfl (by first | rfl | (simp [gotV]; done)) ⟨World.grownBy.refl _ _, CurS.mono hT (by omega), ⟨_, rfl, (wrap_bd _).1, (wrap_bd _).2⟩, fun h => absurd h (by decide)⟩
    | 12, _ =>
      injection ho with ho
      subst ho
      obtain ⟨x11, e11, hxa11, hxb11⟩ := hf 11 (by decide) (by kernel_rfl)
      clear hf
      have hz1 := hgW.size
      have hlt1 := CurS.lt hT
      simp only [fillA, List.take, List.drop, put_none, Act.put, List.setIfInBounds_toArray, List.set_cons_zero, List.set_cons_succ, Nat.reduceAdd, e11]
      go_wp2_with (fail)
      exact RQO_of (.int .i64 (wrap64 (x11 + 1))) rfl (by first | rfl | (simp [gotV]; done)) ⟨World.grownBy.refl _ _, CurS.mono hT (by omega), ⟨_, rfl, (wrap_bd _).1, (wrap_bd _).2⟩, fun h => absurd h (by decide)⟩
    | 13, _ =>
      injection ho with ho
      subst ho
      obtain ⟨x12, e12, hxa12, hxb12⟩ := hf 12 (by decide) (by kernel_rfl)
      clear hf
      have hz1 := hgW.size
      have hlt1 := CurS.lt hT
      simp only [fillA, List.take, List.drop, put_none, Act.put, List.setIfInBounds_toArray, List.set_cons_zero, List.set_cons_succ, Nat.reduceAdd, e12]
      go_wp2_with (go_at_call 76; refine (c_spec_l1Most _ _ _).mono ?_; rintro e w9 ⟨rfl, hb9⟩)
      exact RQO_of (.int .i64 (max 1 x12)) rfl (by first | rfl | (simp [gotV]; done) | (simp [gotV, *]; done)) ⟨grown_of_below hb9, CurS.mono (CurS.below hT hb9) (by omega), ⟨_, rfl, by omega, by omega⟩, fun h => absurd h (by decide)⟩
    | 14, _ =>
      injection ho with ho
      subst ho
      have e6 : vals 6 = .pointer (some ⟨b, 0, none⟩) := hf 6 (by decide) (by kernel_rfl)
      obtain ⟨x13, e13, hxa13, hxb13⟩ := hf 13 (by decide) (by kernel_rfl)
      clear hf
      have hz1 := hgW.size
      have hlt1 := CurS.lt hT
      simp only [fillA, List.take, List.drop, put_none, Act.put, List.setIfInBounds_toArray, List.set_cons_zero, List.set_cons_succ, Nat.reduceAdd, e6, e13]
      go_wp2_with (go_at_call 74; refine (c_pick2 b A cs cap (0 + 2 + 100 + 1 + 1 + 2 * k) x13 _ hT hby (by omega) hl (by omega)).mono ?_; rintro e w9 ⟨x9, rfl, hx9a, hx9b, hcu9, hg9⟩)
      exact RQO_of (.int .i64 x9) rfl (by first | rfl | (simp [gotV]; done) | (simp [gotV, *]; done)) ⟨hg9, CurS.mono hcu9 (by omega), ⟨x9, rfl, by omega, by omega⟩, fun h => absurd h (by decide)⟩
    | 15, _ =>
      injection ho with ho
      subst ho
      have e5 : vals 5 = .int .i64 y4 := hf 5 (by decide) (by kernel_rfl)
      obtain ⟨x14, e14, hxa14, hxb14⟩ := hf 14 (by decide) (by kernel_rfl)
      clear hf
      have hz1 := hgW.size
      have hlt1 := CurS.lt hT
      simp only [fillA, List.take, List.drop, put_none, Act.put, List.setIfInBounds_toArray, List.set_cons_zero, List.set_cons_succ, Nat.reduceAdd, e5, e14]
      go_wp2_with (fail)
      exact RQO_of (.int .i64 (wrap64 (y4 + x14))) rfl (by first | rfl | (simp [gotV]; done)) ⟨World.grownBy.refl _ _, CurS.mono hT (by omega), ⟨_, rfl, (wrap_bd _).1, (wrap_bd _).2⟩, fun h => absurd h (by decide)⟩
    | 16, _ =>
      injection ho with ho
      subst ho
      have e0 : vals 0 = .int .i64 q := hf 0 (by decide) (by kernel_rfl)
      clear hf
      have hz1 := hgW.size
      have hlt1 := CurS.lt hT
      simp only [fillA, List.take, List.drop, put_none, Act.put, List.setIfInBounds_toArray, List.set_cons_zero, List.set_cons_succ, Nat.reduceAdd, e0]
      go_wp2_with (fail)
      exact ⟨rfl, rfl, World.grownBy.refl _ _, CurS.mono hT (by omega), (by first | rfl | (simp [FDle]; done) | (simp [FDle, *]; done) | (simp [FDle, gotV]; done) | (simp [FDle, gotV, *]; done)), fun h => absurd h (by decide)⟩
    | 17, _ =>
      injection ho with ho
      subst ho
      have e1 : vals 1 = .slice (some ⟨gp, 0, none⟩) xs.length cf := hf 1 (by decide) (by kernel_rfl)
      clear hf
      have hz1 := hgW.size
      have hlt1 := CurS.lt hT
      simp only [fillA, List.take, List.drop, put_none, Act.put, List.setIfInBounds_toArray, List.set_cons_zero, List.set_cons_succ, Nat.reduceAdd, e1]
      go_wp2_with (fail)
      exact ⟨rfl, rfl, World.grownBy.refl _ _, CurS.mono hT (by omega), (by first | rfl | (simp [FDle]; done) | (simp [FDle, *]; done) | (simp [FDle, gotV]; done) | (simp [FDle, gotV, *]; done)), fun h => absurd h (by decide)⟩
    | 18, _ =>
      injection ho with ho
      subst ho
      have e3 : vals 3 = .int .i64 y1 := hf 3 (by decide) (by kernel_rfl)
      clear hf
      have hz1 := hgW.size
      have hlt1 := CurS.lt hT
      simp only [fillA, List.take, List.drop, put_none, Act.put, List.setIfInBounds_toArray, List.set_cons_zero, List.set_cons_succ, Nat.reduceAdd, e3]
      go_wp2_with (fail)
      exact ⟨rfl, rfl, World.grownBy.refl _ _, CurS.mono hT (by omega), (by first | rfl | (simp [FDle]; done) | (simp [FDle, *]; done) | (simp [FDle, gotV]; done) | (simp [FDle, gotV, *]; done)), fun h => absurd h (by decide)⟩
    | 19, _ =>
      injection ho with ho
      subst ho
      obtain ⟨x15, e15, hxa15, hxb15⟩ := hf 15 (by decide) (by kernel_rfl)
      clear hf
      have hz1 := hgW.size
      have hlt1 := CurS.lt hT
      simp only [fillA, List.take, List.drop, put_none, Act.put, List.setIfInBounds_toArray, List.set_cons_zero, List.set_cons_succ, Nat.reduceAdd, e15]
      go_wp2_with (fail)
      exact RQO_of (.int .i64 x15) rfl (by first | rfl | (simp [gotV]; done)) ⟨World.grownBy.refl _ _, CurS.mono hT (by omega), ⟨_, rfl, by omega, by omega⟩, fun h => absurd h (by decide)⟩
    | q + 20, h => exact absurd h (by omega)
  · intro vals W5 hT hgW hf hd
    have e0 : vals 0 = .int .i64 q := hf 0 (by decide)
    have e1 : vals 1 = .slice (some ⟨gp, 0, none⟩) xs.length cf := hf 1 (by decide)
    have e2 : vals 2 = .pointer (some ⟨tb, 0, none⟩) := hf 2 (by decide)
    have e3 : vals 3 = .int .i64 y1 := hf 3 (by decide)
    have e4 : vals 4 = .pointer (some ⟨tb, 3, none⟩) := hf 4 (by decide)
    have e5 : vals 5 = .int .i64 y4 := hf 5 (by decide)
    have e6 : vals 6 = .pointer (some ⟨b, 0, none⟩) := hf 6 (by decide)
    have e7 : vals 7 = .pointer (some ⟨tb, 4, none⟩) := hf 7 (by decide)
    have e8 : vals 8 = .int .i64 y5 := hf 8 (by decide)
    have e9 : vals 9 = .pointer (some ⟨tb, 3, none⟩) := hf 9 (by decide)
    have e10 : vals 10 = .int .i64 y4 := hf 10 (by decide)
    obtain ⟨x11, e11, hxa11, hxb11⟩ := hf 11 (by decide)
    obtain ⟨x12, e12, hxa12, hxb12⟩ := hf 12 (by decide)
    obtain ⟨x13, e13, hxa13, hxb13⟩ := hf 13 (by decide)
    obtain ⟨x14, e14, hxa14, hxb14⟩ := hf 14 (by decide)
    obtain ⟨x15, e15, hxa15, hxb15⟩ := hf 15 (by decide)
    have e16 : vals 16 = .int .i64 q := hf 16 (by decide)
    have e17 : vals 17 = .slice (some ⟨gp, 0, none⟩) xs.length cf := hf 17 (by decide)
    have e18 : vals 18 = .int .i64 y1 := hf 18 (by decide)
    obtain ⟨x19, e19, hxa19, hxb19⟩ := hf 19 (by decide)
    clear hf hd
    simp only [fillA, List.take, List.drop, put_none, Act.put, List.setIfInBounds_toArray, List.set_cons_zero, List.set_cons_succ, Nat.reduceAdd, e0, e1, e2, e3, e4, e5, e6, e7, e8, e9, e10, e11, e12, e13, e14, e15, e16, e17, e18, e19]
    have hkW5 := hgW.size
    have c637 : W5.cell? ⟨tb, 0, none⟩ = some (.int .i64 y1) := (cellRow hgW (tb) 0).trans (by rw [if_pos ⟨by omega, by omega⟩]; exact d634)
    have c638 : W5.cell? ⟨tb, 3, none⟩ = some (.int .i64 y4) := (cellRow hgW (tb) 3).trans (by rw [if_pos ⟨by omega, by omega⟩]; exact d635)
    have c639 : W5.cell? ⟨tb, 4, none⟩ = some (.int .i64 y5) := (cellRow hgW (tb) 4).trans (by rw [if_pos ⟨by omega, by omega⟩]; exact d636)
    have R640 : Hid (FreshA cBer 5 48 (V565.heap.size) W5 ((some ⟨gp, 0, none⟩)) cf xs) := hid (FreshA.rowb R631.out hgW (by omega))
    have cu641 : CurS W5 b A cs cap (0 + 2 + 100 + 1 + 1 + 40) := (CurS.mono hT (by omega))
    have gw642 : w.grownBy W5 (some b) := grown_trans gw633 hgW
    have hzgw642 := gw642.size
    have hlcu641 := cu641.lt
    clear d634 d635 d636 R631 cu632 gw633
    clear hgW
    go_wp2_with (fail)
    refine post_named ?_
    intro VP hV
    have hkVP : W5.heap.size ≤ VP.heap.size := by rw [hV]; first | with_reducible exact Nat.le_refl _ | (simp [World.setCell]; done) | (simp; omega)
    have R643 : Hid (FreshA cBer 5 48 (V565.heap.size) VP ((some ⟨gp, 0, none⟩)) cf xs) := hid (by rw [hV]; (repeat' (first | with_reducible exact R640.out | with_reducible refine FreshA.set_at ?_ (by assumption) _ | with_reducible refine FreshA.set_low ?_ ?_ _ | with_reducible refine FreshA.below ?_ (Below.drew (Below.refl _ _)) | with_reducible refine FreshA.below ?_ (Below.alloc (Below.refl _ _) (Nat.le_refl _) _) | (dsimp only; omega) | (simp; done) | (simp; omega))))
    have gw645 : w.grownBy VP (some b) := by rw [hV]; (repeat' (first | with_reducible exact World.grownBy.refl _ _ | with_reducible exact gw642 | with_reducible refine grownA ?_ | with_reducible refine grownS ?_ ?_ | with_reducible refine grown_drew ?_ | (dsimp only; omega) | (simp; done) | omega))
    have hzgw645 := gw645.size
    clear R640 cu641 gw642
    clear hV
    refine bodyPost_ret (v := .tuple #[.int .i64 q, .slice (some ⟨gp, 0, none⟩) xs.length cf, .int .i64 y1, .int .i64 x19]) ?_ rfl ⟨q, _, cf, xs, y1, x19, rfl, FreshA.mono R643.out (by omega), hxl, below_gw gw645 (by omega) hB1⟩
    simp [results, Try.results50, go_sem]

end Go.Proofs.Ytfipmalomhflgaa
