import Derived.Test.YteciijnpfapmhaaQO07
import Derived.Test.YteciijnpfapmhaaQO10
import Derived.Deep.RegionHeld3
import Derived.BigQuiet
import Derived.Deep.QuietTactic
import Derived.Test.YteciijnpfapmhaaQO03
import Derived.Test.YteciijnpfapmhaaQO08
namespace Go.Proofs.Yteciijnpfapmhaa
set_option linter.unusedSimpArgs false
set_option linter.unusedVariables false
open Go.RowKit

def FACi (bw : Nat) (d : Int) (A : Option Addr) (xs : List (Int × Int)) (cap k : Nat) (f t : Int) (B : Nat) (iq : Nat) (v : Value) (w1 : World) : Prop := match iq with
  | 0 => v = .pointer (some ⟨bw, 0, none⟩)
  | 1 => v = .int .i64 d
  | 2 => SlO cIv 2 50 B (([] : List (Int × Int))) (0) v w1
  | 3 => v = .pointer (some ⟨bw, 1, none⟩)
  | 4 => v = .slice A xs.length cap
  | 5 => SlO cIv 2 50 B (xs) (xs.length) v w1
  | 6 => v = .int .i64 ((k : Nat) : Int)
  | 7 => v = .agg #[.int .i64 f, .int .i64 t]
  | 8 => BxO B (.cells (cIv (f, t)).toArray 50 (0, 0)) v w1
  | 9 => SlO cIv 2 50 B (insI xs (f, t)) (xs.length + 1) v w1
  | 10 => AgO d cIv 2 50 B (insI xs (f, t)) (xs.length + 1) v w1
  | 11 => ObO B (.cells #[.int .i64 0, .slice none 0 0] 29 (0, 0)) v w1
  | _ => True
set_option maxRecDepth 100000 in
set_option maxHeartbeats 4000000 in
theorem c_impl_AddClosure (d : Int) (A : Option Addr) (xs : List (Int × Int)) (cap : Nat) (f t : Int) (w : World) (hx : Rds cIv 2 w A xs) (hn : xs.length ≤ 9223372036854775807) :
    Calls Try.prog 35 #[.agg #[.int .i64 d, .slice A xs.length cap], .agg #[.int .i64 f, .int .i64 t]] w fun e w' => ∃ A' cap', e = .returned (.tuple #[.agg #[.int .i64 (addV d xs (f, t)).1.1, .slice A' (addV d xs (f, t)).1.2.length cap'], .bool (addV d xs (f, t)).2]) ∧ FreshA cIv 2 50 w.heap.size w' A' cap' (addV d xs (f, t)).1.2 ∧ Below w.heap.size w w' := by
  obtain ⟨i0, hI0, hI1, hI2, hI3⟩ := info_parts info_Iv
  rcases A with _ | ⟨bx, ox, sp⟩
  · cases hg : brB d xs
    · have hV : addV d xs (f, t) = ((0, []), false) := by simp [addV, hg]
      rw [hV]
      simp only
      clear hV
      go_enter Try.func35, Try.ntmps35
      go_wp2_with (fail)
      refine (c_impl_IsValidBridge _ _ xs _ _ (by first | exact hx | exact Rds.below hx (by (repeat' (first | exact Below.refl _ _ | assumption | refine Below.setCell ?_ ?_ _ | refine Below.drew ?_ | refine Below.alloc ?_ ?_ _ | refine Below.trans ?_ (Below.mono (by assumption) ?_) | (simp; done) | (simp; omega) | omega)))) (by omega)).mono ?_
      rintro e W1 ⟨rfl, hb1⟩
      have hc1 := cellOf hb1; have hf1 := frozOf hb1; have hz1 := sizeOf hb1; (try simp at hz1)
      simp only [hg]
      go_wp2_with (fail)
      refine bodyPost_ret (v := .tuple #[.agg #[.int .i64 0, .slice none 0 0], .bool false]) ?_ rfl ⟨none, 0, rfl, .inl ⟨rfl, rfl, rfl⟩, by (repeat' (first | exact Below.refl _ _ | assumption | refine Below.setCell ?_ ?_ _ | refine Below.drew ?_ | refine Below.alloc ?_ ?_ _ | refine Below.trans ?_ (Below.mono (by assumption) ?_) | (simp; done) | (simp; omega) | omega))⟩
      simp [results, Try.results35, go_sem, ↓IntWalk.iteOmega, *]
    have hlen : xs.length ≤ 6 := brB_len hg
    go_enter Try.func35, Try.ntmps35
    go_wp2_with (fail)
    refine (c_impl_IsValidBridge _ _ xs _ _ (by first | exact hx | exact Rds.below hx (by (repeat' (first | exact Below.refl _ _ | assumption | refine Below.setCell ?_ ?_ _ | refine Below.drew ?_ | refine Below.alloc ?_ ?_ _ | refine Below.trans ?_ (Below.mono (by assumption) ?_) | (simp; done) | (simp; omega) | omega)))) (by omega)).mono ?_
    rintro e W1 ⟨rfl, hb1⟩
    have hc1 := cellOf hb1; have hf1 := frozOf hb1; have hz1 := sizeOf hb1; (try simp at hz1)
    simp only [hg]
    go_wp2_with (fail)
    have m0 : W1.cell? ⟨w.heap.size, 0, none⟩ = some (.int .i64 d) := by first | (simp [go_sem, ↓IntWalk.iteOmega, *]; done) | (simp [go_sem, ↓IntWalk.iteOmega, *]; intros; omega)
    have m1 : W1.cell? ⟨w.heap.size, 1, none⟩ = some (.slice (none) xs.length cap) := by first | (simp [go_sem, ↓IntWalk.iteOmega, *]; done) | (simp [go_sem, ↓IntWalk.iteOmega, *]; intros; omega)
    have m2 : W1.cell? ⟨w.heap.size + 1, 0, none⟩ = some (.int .i64 f) := by first | (simp [go_sem, ↓IntWalk.iteOmega, *]; done) | (simp [go_sem, ↓IntWalk.iteOmega, *]; intros; omega)
    have m3 : W1.cell? ⟨w.heap.size + 1, 1, none⟩ = some (.int .i64 t) := by first | (simp [go_sem, ↓IntWalk.iteOmega, *]; done) | (simp [go_sem, ↓IntWalk.iteOmega, *]; intros; omega)
    have m4 : W1.cell? ⟨w.heap.size + 2, 0, none⟩ = some (.int .i64 0) := by first | (simp [go_sem, ↓IntWalk.iteOmega, *]; done) | (simp [go_sem, ↓IntWalk.iteOmega, *]; intros; omega)
    have m5 : W1.cell? ⟨w.heap.size + 2, 1, none⟩ = some (.slice none 0 0) := by first | (simp [go_sem, ↓IntWalk.iteOmega, *]; done) | (simp [go_sem, ↓IntWalk.iteOmega, *]; intros; omega)
    have mf : ∀ o, W1.frozen? ⟨w.heap.size + 2, o, none⟩ = false := fun o => by first | (simp [go_sem, ↓IntWalk.iteOmega, *]; done) | (simp [go_sem, ↓IntWalk.iteOmega, *]; intros; omega)
    have hbW : Below w.heap.size w W1 := by (repeat' (first | exact Below.refl _ _ | assumption | refine Below.setCell ?_ ?_ _ | refine Below.drew ?_ | refine Below.alloc ?_ ?_ _ | refine Below.trans ?_ (Below.mono (by assumption) ?_) | (simp; done) | (simp; omega) | omega))
    clear hc1 hf1 hb1
    go_loopw [6] (fun i wr => ∃ k : Nat, k ≤ xs.length ∧ i = .int .i64 k ∧ (∀ q (hq : q < xs.length), q < k → xs[q].1 < f) ∧ Below W1.heap.size W1 wr) (fun i _ => xs.length - (intOf i).toNat)
    case atStart => exact ⟨0, Nat.zero_le _, rfl, fun q hq hk => absurd hk (Nat.not_lt_zero q), Below.refl _ _⟩
    case round =>
      obtain ⟨k, hk, rfl, hl, hbr⟩ := hrel
      have HL := hid hl
      clear hl
      have hzr := hbr.size
      have n0 := (hbr.cell (p := ⟨w.heap.size, 0, none⟩) (by show w.heap.size < _; omega)).trans m0
      have n1 := (hbr.cell (p := ⟨w.heap.size, 1, none⟩) (by show w.heap.size < _; omega)).trans m1
      have n2 := (hbr.cell (p := ⟨w.heap.size + 1, 0, none⟩) (by show w.heap.size + 1 < _; omega)).trans m2
      have n3 := (hbr.cell (p := ⟨w.heap.size + 1, 1, none⟩) (by show w.heap.size + 1 < _; omega)).trans m3
      have n4 := (hbr.cell (p := ⟨w.heap.size + 2, 0, none⟩) (by show w.heap.size + 2 < _; omega)).trans m4
      have n5 := (hbr.cell (p := ⟨w.heap.size + 2, 1, none⟩) (by show w.heap.size + 2 < _; omega)).trans m5
      have nf : ∀ o, wr.frozen? ⟨w.heap.size + 2, o, none⟩ = false := fun o => (hbr.frozen (p := ⟨w.heap.size + 2, o, none⟩) (by show w.heap.size + 2 < _; omega)).trans (mf o)
      have hbw : Below w.heap.size w wr := Below.trans hbW (Below.mono hbr (by omega))
      have hbw' := hid hbw
      clear m0 m1 m2 m3 m4 m5 mf
      by_cases hgo : ∃ h : k < xs.length, xs[k].1 < f
      · obtain ⟨hlt, hlf⟩ := hgo
        exact absurd (hx k xs[k] (List.getElem?_eq_getElem hlt)) (fun ⟨_, _, hA, _⟩ => by cases hA)
      have hpk : posI f xs = k := posI_at hk HL.out (fun h h2 => hgo ⟨h, h2⟩)
      have hins : insI xs (f, t) = xs.take k ++ (f, t) :: xs.drop k := by simp only [insI, hpk]
      have HINS := hid hins
      have HINL := hid (insI_len xs (f, t))
      clear hins hpk HL
      have hgoK := hid hgo
      clear hgo
      have hlt : ¬ k < xs.length := fun hlt => (by exact absurd (hx k xs[k] (List.getElem?_eq_getElem hlt)) (fun ⟨_, _, hA, _⟩ => by cases hA))
      obtain rfl : k = xs.length := by omega
      go_wp2_with (fail)
      go_quiet (fail)
      go_wp2_with (fail)
      refine wp_named ?_
      intro WA hWA
      have p0 : WA.cell? ⟨w.heap.size, 0, none⟩ = some (.int .i64 d) := by rw [hWA]; exact n0
      have p1 : WA.cell? ⟨w.heap.size, 1, none⟩ = some (.slice (none) xs.length cap) := by rw [hWA]; exact n1
      have p2 : WA.cell? ⟨w.heap.size + 1, 0, none⟩ = some (.int .i64 f) := by rw [hWA]; exact n2
      have p3 : WA.cell? ⟨w.heap.size + 1, 1, none⟩ = some (.int .i64 t) := by rw [hWA]; exact n3
      have p4 : WA.cell? ⟨w.heap.size + 2, 0, none⟩ = some (.int .i64 0) := by rw [hWA]; exact n4
      have p5 : WA.cell? ⟨w.heap.size + 2, 1, none⟩ = some (.slice none 0 0) := by rw [hWA]; exact n5
      have pf : ∀ o, WA.frozen? ⟨w.heap.size + 2, o, none⟩ = false := by rw [hWA]; exact nf
      have hzA : wr.heap.size ≤ WA.heap.size := by rw [hWA]; exact Nat.le_refl _
      have hbA : Below w.heap.size w WA := by rw [hWA]; first | exact Below.drew hbw'.out | exact below_dn hbw'.out | exact hbw'.out
      have HBA := hid hbA
      have HXA := hid (Rds.below hx hbA)
      clear hWA n0 n1 n2 n3 n4 n5 nf hbr hbw hbw' hbW hbA
      have HKEEP : Hid (∀ w', Below WA.heap.size WA w' → w'.cell? ⟨w.heap.size, 0, none⟩ = some (.int .i64 d) ∧ w'.cell? ⟨w.heap.size, 1, none⟩ = some (.slice (none) xs.length cap) ∧ w'.cell? ⟨w.heap.size + 1, 0, none⟩ = some (.int .i64 f) ∧ w'.cell? ⟨w.heap.size + 1, 1, none⟩ = some (.int .i64 t)) := fun w' hb => ⟨(hb.cell (p := ⟨w.heap.size, 0, none⟩) (by show w.heap.size < _; omega)).trans p0, (hb.cell (p := ⟨w.heap.size, 1, none⟩) (by show w.heap.size < _; omega)).trans p1, (hb.cell (p := ⟨w.heap.size + 1, 0, none⟩) (by show w.heap.size + 1 < _; omega)).trans p2, (hb.cell (p := ⟨w.heap.size + 1, 1, none⟩) (by show w.heap.size + 1 < _; omega)).trans p3⟩
      have HKEP2 : Hid (∀ w', Below WA.heap.size WA w' → w'.cell? ⟨w.heap.size + 2, 0, none⟩ = some (.int .i64 0) ∧ w'.cell? ⟨w.heap.size + 2, 1, none⟩ = some (.slice none 0 0) ∧ ∀ o, w'.frozen? ⟨w.heap.size + 2, o, none⟩ = false) := fun w' hb => ⟨(hb.cell (p := ⟨w.heap.size + 2, 0, none⟩) (by show w.heap.size + 2 < _; omega)).trans p4, (hb.cell (p := ⟨w.heap.size + 2, 1, none⟩) (by show w.heap.size + 2 < _; omega)).trans p5, fun o => (hb.frozen (p := ⟨w.heap.size + 2, o, none⟩) (by show w.heap.size + 2 < _; omega)).trans (pf o)⟩
      clear p0 p1 p2 p3 p4 p5 pf
      refine wp_region_o (n := 12) bkI [2, 5, 8, 9, 10, 11] [2, 5, 9] (FACi w.heap.size d (none) xs cap xs.length f t WA.heap.size) rfl (by kernel_rfl) (by kernel_rfl) (by intro j hj; simp at hj ⊢; omega) (fun _ _ d _ _ h => by cases d <;> exact h) ?_ ?_ ?_ ?_
      · intro iq v w1 w2 row hF hg hb hl
        match iq with
        | 0 => exact hF
        | 1 => exact hF
        | 2 => exact SlO.keep hF hg (hb (by decide))
        | 3 => exact hF
        | 4 => exact hF
        | 5 => exact SlO.keep hF hg (hb (by decide))
        | 6 => exact hF
        | 7 => exact hF
        | 8 => exact BxO.keep hF hg (hb (by decide))
        | 9 => exact SlO.keep hF hg (hb (by decide))
        | 10 => exact AgO.keep hF hg (hb (by decide))
        | 11 => exact ObO.keep hF hg (hb (by decide))
        | m + 12 => exact (show True from trivial)
      · intro iq hi v w1 hF
        have hcase : iq = 2 ∨ iq = 5 ∨ iq = 8 ∨ iq = 9 ∨ iq = 10 ∨ iq = 11 := by simpa using hi
        rcases hcase with rfl | rfl | rfl | rfl | rfl | rfl
        · exact SlO.at_ hF
        · exact SlO.at_ hF
        · exact BxO.at_ hF
        · exact SlO.at_ hF
        · exact AgO.at_ hF
        · exact ObO.at_ hF
      · intro iq o hi ho vals w1 hb1 hf hd
        match iq, hi with
        | 0, _ =>
          injection ho with ho
          subst ho
          clear hf hd
          have hz1 := hb1.size
          simp only [fillA, List.take, List.drop, put_none, Act.put, List.setIfInBounds_toArray, List.set_cons_zero, List.set_cons_succ, Nat.reduceAdd]
          go_wp2_with (fail)
          exact ⟨rfl, rfl, none, .inl rfl, World.grownBy.refl _ _, (by first | rfl | (simp [FACi]; done) | (simp [FACi, *]; done) | (simp [FACi, gotV]; done) | (simp [FACi, gotV, *]; done)), fun h => absurd h (by decide)⟩
        | 1, _ =>
          injection ho with ho
          subst ho
          have e0 : vals 0 = .pointer (some ⟨w.heap.size, 0, none⟩) := hf 0 (by decide) (by kernel_rfl)
          clear hf hd
          have hz1 := hb1.size
          simp only [fillA, List.take, List.drop, put_none, Act.put, List.setIfInBounds_toArray, List.set_cons_zero, List.set_cons_succ, Nat.reduceAdd, e0]
          have hK := HKEEP.out w1 hb1
          obtain ⟨k0, k1, k2, k3⟩ := hK
          go_wp2_with (fail)
          exact ⟨rfl, rfl, none, .inl rfl, World.grownBy.refl _ _, (by first | rfl | (simp [FACi]; done) | (simp [FACi, *]; done) | (simp [FACi, gotV]; done) | (simp [FACi, gotV, *]; done)), fun h => absurd h (by decide)⟩
        | 2, _ =>
          injection ho with ho
          subst ho
          clear hf hd
          have hz1 := hb1.size
          simp only [fillA, List.take, List.drop, put_none, Act.put, List.setIfInBounds_toArray, List.set_cons_zero, List.set_cons_succ, Nat.reduceAdd]
          go_wp2_with (fail)
          exact ⟨rfl, rfl, none, .inl rfl, World.grownBy_alloc _ _ _, ⟨_, _, rfl, FreshA.newh rfl hz1⟩, fun _ => .inr (.inr ⟨_, rfl, Nat.le_refl _⟩)⟩
        | 3, _ =>
          injection ho with ho
          subst ho
          clear hf hd
          have hz1 := hb1.size
          simp only [fillA, List.take, List.drop, put_none, Act.put, List.setIfInBounds_toArray, List.set_cons_zero, List.set_cons_succ, Nat.reduceAdd]
          go_wp2_with (fail)
          exact ⟨rfl, rfl, none, .inl rfl, World.grownBy.refl _ _, (by first | rfl | (simp [FACi]; done) | (simp [FACi, *]; done) | (simp [FACi, gotV]; done) | (simp [FACi, gotV, *]; done)), fun h => absurd h (by decide)⟩
        | 4, _ =>
          injection ho with ho
          subst ho
          have e3 : vals 3 = .pointer (some ⟨w.heap.size, 1, none⟩) := hf 3 (by decide) (by kernel_rfl)
          clear hf hd
          have hz1 := hb1.size
          simp only [fillA, List.take, List.drop, put_none, Act.put, List.setIfInBounds_toArray, List.set_cons_zero, List.set_cons_succ, Nat.reduceAdd, e3]
          have hK := HKEEP.out w1 hb1
          obtain ⟨k0, k1, k2, k3⟩ := hK
          go_wp2_with (fail)
          exact ⟨rfl, rfl, none, .inl rfl, World.grownBy.refl _ _, (by first | rfl | (simp [FACi]; done) | (simp [FACi, *]; done) | (simp [FACi, gotV]; done) | (simp [FACi, gotV, *]; done)), fun h => absurd h (by decide)⟩
        | 5, _ =>
          injection ho with ho
          subst ho
          obtain ⟨A2, c2, e2, hF2⟩ := hf 2 (by decide) (by kernel_rfl)
          have e4 : vals 4 = .slice (none) xs.length cap := hf 4 (by decide) (by kernel_rfl)
          clear hf hd
          have hz1 := hb1.size
          simp only [fillA, List.take, List.drop, put_none, Act.put, List.setIfInBounds_toArray, List.set_cons_zero, List.set_cons_succ, Nat.reduceAdd, e2, e4]
          refine wpList_pushesR (xs := ([] : List (Int × Int))) rfl (.tmp 32) (.tmp 34) 27 rfl 50 i0 _ 16 Try.underlying27 hI0 hI1 hI2 hI3 rfl (by decide) (fun _ => rfl) one_Iv 0 rfl rfl hF2 xs xs.length rfl (none) _ rfl (Rds.below HXA.out hb1) (by unfold maxLen; omega) (by omega) hz1 ?_
          intro A' cp' w' hF' hg' hat'
          exact RQO_of (.slice A' (0 + xs.length) cp') rfl (by first | rfl | (simp [gotV]; done) | (simp [gotV, *]; done)) ⟨blkO A2, .inr ⟨2, by decide, by decide, by kernel_rfl, by rw [e2, bkI_sl]⟩, hg', ⟨A', cp', by first | rfl | (simp; done) | (congr 1; omega), by simpa using hF'⟩, fun _ => by rw [← bkI_sl (m := 0) (c := 0) (A := A2)]; exact bkI_hat hat'⟩
        | 6, _ =>
          injection ho with ho
          subst ho
          clear hf hd
          have hz1 := hb1.size
          simp only [fillA, List.take, List.drop, put_none, Act.put, List.setIfInBounds_toArray, List.set_cons_zero, List.set_cons_succ, Nat.reduceAdd]
          go_wp2_with (fail)
          exact ⟨rfl, rfl, none, .inl rfl, World.grownBy.refl _ _, (by first | rfl | (simp [FACi]; done) | (simp [FACi, *]; done) | (simp [FACi, gotV]; done) | (simp [FACi, gotV, *]; done)), fun h => absurd h (by decide)⟩
        | 7, _ =>
          injection ho with ho
          subst ho
          clear hf hd
          have hz1 := hb1.size
          simp only [fillA, List.take, List.drop, put_none, Act.put, List.setIfInBounds_toArray, List.set_cons_zero, List.set_cons_succ, Nat.reduceAdd]
          have hK := HKEEP.out w1 hb1
          obtain ⟨k0, k1, k2, k3⟩ := hK
          go_wp2_with (fail)
          exact ⟨rfl, rfl, none, .inl rfl, World.grownBy.refl _ _, (by first | rfl | (simp [FACi]; done) | (simp [FACi, *]; done) | (simp [FACi, gotV]; done) | (simp [FACi, gotV, *]; done)), fun h => absurd h (by decide)⟩
        | 8, _ =>
          injection ho with ho
          subst ho
          have e7 : vals 7 = .agg #[.int .i64 f, .int .i64 t] := hf 7 (by decide) (by kernel_rfl)
          clear hf hd
          have hz1 := hb1.size
          simp only [fillA, List.take, List.drop, put_none, Act.put, List.setIfInBounds_toArray, List.set_cons_zero, List.set_cons_succ, Nat.reduceAdd, e7]
          go_wp2_with (fail)
          exact ⟨rfl, rfl, none, .inl rfl, World.grownBy_alloc _ _ _, ⟨_, rfl, hz1, heap_alloc_new _ _⟩, fun _ => .inr (.inr ⟨_, rfl, Nat.le_refl _⟩)⟩
        | 9, _ =>
          injection ho with ho
          subst ho
          obtain ⟨A5, c5, e5, hF5⟩ := hf 5 (by decide) (by kernel_rfl)
          have e6 : vals 6 = .int .i64 ((xs.length : Nat) : Int) := hf 6 (by decide) (by kernel_rfl)
          obtain ⟨g8, e8, hB8, hh8⟩ := hf 8 (by decide) (by kernel_rfl)
          have hd5_8 := hd 5 8 (by decide) (by decide) (by decide) (by kernel_rfl) (by kernel_rfl) (by decide) (by decide)
          simp only [e5, e8, bkI_sl, bkI_ag] at hd5_8
          clear hf hd
          have hz1 := hb1.size
          simp only [fillA, List.take, List.drop, put_none, Act.put, List.setIfInBounds_toArray, List.set_cons_zero, List.set_cons_succ, Nat.reduceAdd, e5, e6, e8]
          go_wp2_with (go_at_call 69; refine (c_Insert A5 c5 xs xs.length WA.heap.size (f, t) g8 1 w1 hF5 (by omega) hh8 (fun a ha => ?_) hz1 (by omega)).mono ?_)
          · subst ha
            rcases hd5_8 with h | h
            · cases h
            · intro e
              exact h (by rw [← e]; rfl)
          rintro e w5 ⟨A5', cp5, rfl, hF5', hg5, hat5⟩
          go_wp2_with (fail)
          exact RQO_of (.slice A5' (xs.length + 1) cp5) rfl (by first | rfl | (simp [gotV]; done) | (simp [gotV, *]; done)) ⟨blkO A5, .inr ⟨5, by decide, by decide, by kernel_rfl, by rw [e5, bkI_sl]⟩, hg5, ⟨A5', cp5, rfl, by rw [HINS.out]; exact hF5'⟩, fun _ => by rw [← bkI_sl (m := 0) (c := 0) (A := A5)]; exact bkI_hat hat5⟩
        | 10, _ =>
          injection ho with ho
          subst ho
          have e1 : vals 1 = .int .i64 d := hf 1 (by decide) (by kernel_rfl)
          obtain ⟨A9, c9, e9, hF9⟩ := hf 9 (by decide) (by kernel_rfl)
          clear hf hd
          have hz1 := hb1.size
          simp only [fillA, List.take, List.drop, put_none, Act.put, List.setIfInBounds_toArray, List.set_cons_zero, List.set_cons_succ, Nat.reduceAdd, e1, e9]
          go_wp2_with (fail)
          exact RQO_of (.agg #[.int .i64 d, .slice A9 (xs.length + 1) c9]) rfl (by first | rfl | (simp [gotV]; done) | (simp [gotV, *]; done)) ⟨blkO A9, .inr ⟨9, by decide, by decide, by kernel_rfl, by rw [e9, bkI_sl]⟩, World.grownBy.refl _ _, ⟨A9, c9, rfl, hF9⟩, fun _ => .inr (.inl bkI_ag)⟩
        | 11, _ =>
          injection ho with ho
          subst ho
          clear hf hd
          have hz1 := hb1.size
          simp only [fillA, List.take, List.drop, put_none, Act.put, List.setIfInBounds_toArray, List.set_cons_zero, List.set_cons_succ, Nat.reduceAdd]
          go_wp2_with (fail)
          exact ⟨rfl, rfl, none, .inl rfl, World.grownBy_alloc _ _ _, ⟨_, rfl, hz1, heap_alloc_new _ _⟩, fun _ => .inr (.inr ⟨_, rfl, Nat.le_refl _⟩)⟩
        | m + 12, h => exact absurd h (by omega)
      · intro vals W5 hb5 hf hd
        have e0 : vals 0 = .pointer (some ⟨w.heap.size, 0, none⟩) := hf 0 (by decide) (by decide)
        have e1 : vals 1 = .int .i64 d := hf 1 (by decide) (by decide)
        have e3 : vals 3 = .pointer (some ⟨w.heap.size, 1, none⟩) := hf 3 (by decide) (by decide)
        have e4 : vals 4 = .slice (none) xs.length cap := hf 4 (by decide) (by decide)
        have e6 : vals 6 = .int .i64 ((xs.length : Nat) : Int) := hf 6 (by decide) (by decide)
        have e7 : vals 7 = .agg #[.int .i64 f, .int .i64 t] := hf 7 (by decide) (by decide)
        obtain ⟨g8, e8, hB8, hh8⟩ := hf 8 (by decide) (by decide)
        obtain ⟨A10, c10, e10, hF10⟩ := hf 10 (by decide) (by decide)
        obtain ⟨g11, e11, hB11, hh11⟩ := hf 11 (by decide) (by decide)
        have hd8_10 := hd 8 10 (by decide) (by decide) (by decide) (by decide) (by decide) (by decide) (by decide)
        have hd8_11 := hd 8 11 (by decide) (by decide) (by decide) (by decide) (by decide) (by decide) (by decide)
        have hd10_11 := hd 10 11 (by decide) (by decide) (by decide) (by decide) (by decide) (by decide) (by decide)
        simp only [e8, e10, e11, bkI_sl, bkI_ag] at hd8_10 hd8_11 hd10_11
        clear hf hd
        simp only [fillA, List.take, List.drop, put_none, Act.put, List.setIfInBounds_toArray, List.set_cons_zero, List.set_cons_succ, Nat.reduceAdd, e0, e1, e3, e4, e6, e7, e8, e10, e11]
        have ht0 := Fresh.cell hh11 0
        have ht1 := Fresh.cell hh11 1
        have htf := Fresh.froz hh11
        simp at ht0 ht1
        have hgl := Fresh.lt hh11
        have hzW := HBA.out.size
        have hne : NeB g11 A10 := by
          intro a ha e
          subst ha
          rcases hd10_11 with h | h
          · cases h
          · exact h (by rw [← e]; rfl)
        have hbw5 : Below w.heap.size w W5 := Below.trans HBA.out (Below.mono hb5 (by omega))
        have HF6 := hid (hF10.mono (B' := w.heap.size + 3) (by omega))
        have HBW5 := hid hbw5
        have HK2 := hid (HKEP2.out W5 hb5)
        have hz5 := hb5.size
        have HNE := hid hne
        clear hF10 hb5 hbw5 HKEEP HKEP2 hh11 hd10_11 hne
        go_wp2_with (fail)
        refine calls_named ?_
        intro V hV
        have r0 : V.cell? ⟨g11, 0, none⟩ = some (.int .i64 d) := by rw [hV]; simp [cellSet, ht0, ht1]
        have r1 : V.cell? ⟨g11, 1, none⟩ = some (.slice A10 (xs.length + 1) c10) := by rw [hV]; simp [cellSet, ht0, ht1]
        have hTV : g11 < V.heap.size := by rw [hV]; simpa [World.setCell] using hgl
        have hFV : FreshA cIv 2 50 (w.heap.size + 3) V A10 c10 (insI xs (f, t)) := by rw [hV]; exact (HF6.out.set_neb (p := ⟨g11, 0, none⟩) HNE.out _).set_neb (p := ⟨g11, 1, none⟩) HNE.out _
        have hKV : Below (w.heap.size + 3) W5 V := by rw [hV]; exact Below.setCell (Below.setCell (Below.refl _ _) (by show w.heap.size + 3 ≤ g11; omega) _) (by show w.heap.size + 3 ≤ g11; omega) _
        obtain ⟨q4, q5, qf⟩ := HK2.out
        have s4 : V.cell? ⟨w.heap.size + 2, 0, none⟩ = some (.int .i64 0) := (hKV.cell (p := ⟨w.heap.size + 2, 0, none⟩) (by show w.heap.size + 2 < _; omega)).trans q4
        have s5 : V.cell? ⟨w.heap.size + 2, 1, none⟩ = some (.slice none 0 0) := (hKV.cell (p := ⟨w.heap.size + 2, 1, none⟩) (by show w.heap.size + 2 < _; omega)).trans q5
        have sf : ∀ o, V.frozen? ⟨w.heap.size + 2, o, none⟩ = false := fun o => (hKV.frozen (p := ⟨w.heap.size + 2, o, none⟩) (by show w.heap.size + 2 < _; omega)).trans (qf o)
        have hbV : Below w.heap.size w V := Below.trans HBW5.out (Below.mono hKV (by omega))
        have hVs := hKV.size
        have HBW := hid hbV
        have HFV := hid hFV
        clear q4 q5 qf HK2 HF6 HBW5 hKV hbV hFV hV ht0 ht1 htf HNE
        have hval := c_impl_IsValidBridge d A10 (insI xs (f, t)) c10 V HFV.out.rds (by rw [HINL.out]; omega)
        rw [HINL.out] at hval
        refine hval.mono ?_
        rintro e W7 ⟨rfl, hb7⟩
        have hc7 := cellOf hb7; have hf7 := frozOf hb7; have hz7 := sizeOf hb7; (try simp at hz7)
        cases hg2 : brB d (insI xs (f, t))
        · have hV2 : addV d xs (f, t) = ((0, []), false) := by simp [addV, hg2]
          have HV2 := hid hV2
          clear hV2
          simp only [hg2]
          go_wp2_with (fail)
          refine bodyPost_ret (v := .tuple #[.agg #[.int .i64 0, .slice none 0 0], .bool false]) ?_ rfl ?_
          · simp [results, Try.results35, go_sem, ↓IntWalk.iteOmega, *]
          · simp only [HV2.out]
            refine ⟨none, 0, rfl, .inl ⟨rfl, rfl, rfl⟩, ?_⟩
            have hb8 : Below w.heap.size w W7 := Below.trans HBW.out (Below.mono hb7 (by omega))
            repeat' (first | with_reducible exact hb8 | with_reducible refine Below.setCell ?_ ?_ _ | (dsimp only; omega))
        have hV2 : addV d xs (f, t) = ((d, insI xs (f, t)), true) := by simp only [addV, hg, hg2, and_self, if_true]
        have HV2 := hid hV2
        clear hV2
        simp only [hg2]
        have HF7 := hid (HFV.out.below hb7)
        have hb8 : Below w.heap.size w W7 := Below.trans HBW.out (Below.mono hb7 (by omega))
        have HB8 := hid hb8
        clear hb8 HBW HFV
        go_wp2_with (fail)
        refine bodyPost_ret (v := .tuple #[.agg #[.int .i64 d, .slice A10 (xs.length + 1) c10], .bool true]) ?_ rfl ?_
        · simp [results, Try.results35, go_sem, ↓IntWalk.iteOmega, *]
        · simp only [HV2.out, HINL.out]
          refine ⟨A10, c10, rfl, ?_, ?_⟩
          · refine FreshA.mono (B := w.heap.size + 3) ?_ (by omega)
            repeat' (first | with_reducible exact HF7.out | with_reducible refine FreshA.set_low ?_ ?_ _ | (dsimp only; omega))
          · repeat' (first | with_reducible exact HB8.out | with_reducible refine Below.setCell ?_ ?_ _ | (dsimp only; omega))

  · cases hg : brB d xs
    · have hV : addV d xs (f, t) = ((0, []), false) := by simp [addV, hg]
      rw [hV]
      simp only
      clear hV
      go_enter Try.func35, Try.ntmps35
      go_wp2_with (fail)
      refine (c_impl_IsValidBridge _ _ xs _ _ (by first | exact hx | exact Rds.below hx (by (repeat' (first | exact Below.refl _ _ | assumption | refine Below.setCell ?_ ?_ _ | refine Below.drew ?_ | refine Below.alloc ?_ ?_ _ | refine Below.trans ?_ (Below.mono (by assumption) ?_) | (simp; done) | (simp; omega) | omega)))) (by omega)).mono ?_
      rintro e W1 ⟨rfl, hb1⟩
      have hc1 := cellOf hb1; have hf1 := frozOf hb1; have hz1 := sizeOf hb1; (try simp at hz1)
      simp only [hg]
      go_wp2_with (fail)
      refine bodyPost_ret (v := .tuple #[.agg #[.int .i64 0, .slice none 0 0], .bool false]) ?_ rfl ⟨none, 0, rfl, .inl ⟨rfl, rfl, rfl⟩, by (repeat' (first | exact Below.refl _ _ | assumption | refine Below.setCell ?_ ?_ _ | refine Below.drew ?_ | refine Below.alloc ?_ ?_ _ | refine Below.trans ?_ (Below.mono (by assumption) ?_) | (simp; done) | (simp; omega) | omega))⟩
      simp [results, Try.results35, go_sem, ↓IntWalk.iteOmega, *]
    have hlen : xs.length ≤ 6 := brB_len hg
    go_enter Try.func35, Try.ntmps35
    go_wp2_with (fail)
    refine (c_impl_IsValidBridge _ _ xs _ _ (by first | exact hx | exact Rds.below hx (by (repeat' (first | exact Below.refl _ _ | assumption | refine Below.setCell ?_ ?_ _ | refine Below.drew ?_ | refine Below.alloc ?_ ?_ _ | refine Below.trans ?_ (Below.mono (by assumption) ?_) | (simp; done) | (simp; omega) | omega)))) (by omega)).mono ?_
    rintro e W1 ⟨rfl, hb1⟩
    have hc1 := cellOf hb1; have hf1 := frozOf hb1; have hz1 := sizeOf hb1; (try simp at hz1)
    simp only [hg]
    go_wp2_with (fail)
    have m0 : W1.cell? ⟨w.heap.size, 0, none⟩ = some (.int .i64 d) := by first | (simp [go_sem, ↓IntWalk.iteOmega, *]; done) | (simp [go_sem, ↓IntWalk.iteOmega, *]; intros; omega)
    have m1 : W1.cell? ⟨w.heap.size, 1, none⟩ = some (.slice (some ⟨bx, ox, sp⟩) xs.length cap) := by first | (simp [go_sem, ↓IntWalk.iteOmega, *]; done) | (simp [go_sem, ↓IntWalk.iteOmega, *]; intros; omega)
    have m2 : W1.cell? ⟨w.heap.size + 1, 0, none⟩ = some (.int .i64 f) := by first | (simp [go_sem, ↓IntWalk.iteOmega, *]; done) | (simp [go_sem, ↓IntWalk.iteOmega, *]; intros; omega)
    have m3 : W1.cell? ⟨w.heap.size + 1, 1, none⟩ = some (.int .i64 t) := by first | (simp [go_sem, ↓IntWalk.iteOmega, *]; done) | (simp [go_sem, ↓IntWalk.iteOmega, *]; intros; omega)
    have m4 : W1.cell? ⟨w.heap.size + 2, 0, none⟩ = some (.int .i64 0) := by first | (simp [go_sem, ↓IntWalk.iteOmega, *]; done) | (simp [go_sem, ↓IntWalk.iteOmega, *]; intros; omega)
    have m5 : W1.cell? ⟨w.heap.size + 2, 1, none⟩ = some (.slice none 0 0) := by first | (simp [go_sem, ↓IntWalk.iteOmega, *]; done) | (simp [go_sem, ↓IntWalk.iteOmega, *]; intros; omega)
    have mf : ∀ o, W1.frozen? ⟨w.heap.size + 2, o, none⟩ = false := fun o => by first | (simp [go_sem, ↓IntWalk.iteOmega, *]; done) | (simp [go_sem, ↓IntWalk.iteOmega, *]; intros; omega)
    have hbW : Below w.heap.size w W1 := by (repeat' (first | exact Below.refl _ _ | assumption | refine Below.setCell ?_ ?_ _ | refine Below.drew ?_ | refine Below.alloc ?_ ?_ _ | refine Below.trans ?_ (Below.mono (by assumption) ?_) | (simp; done) | (simp; omega) | omega))
    clear hc1 hf1 hb1
    go_loopw [6] (fun i wr => ∃ k : Nat, k ≤ xs.length ∧ i = .int .i64 k ∧ (∀ q (hq : q < xs.length), q < k → xs[q].1 < f) ∧ Below W1.heap.size W1 wr) (fun i _ => xs.length - (intOf i).toNat)
    case atStart => exact ⟨0, Nat.zero_le _, rfl, fun q hq hk => absurd hk (Nat.not_lt_zero q), Below.refl _ _⟩
    case round =>
      obtain ⟨k, hk, rfl, hl, hbr⟩ := hrel
      have HL := hid hl
      clear hl
      have hzr := hbr.size
      have n0 := (hbr.cell (p := ⟨w.heap.size, 0, none⟩) (by show w.heap.size < _; omega)).trans m0
      have n1 := (hbr.cell (p := ⟨w.heap.size, 1, none⟩) (by show w.heap.size < _; omega)).trans m1
      have n2 := (hbr.cell (p := ⟨w.heap.size + 1, 0, none⟩) (by show w.heap.size + 1 < _; omega)).trans m2
      have n3 := (hbr.cell (p := ⟨w.heap.size + 1, 1, none⟩) (by show w.heap.size + 1 < _; omega)).trans m3
      have n4 := (hbr.cell (p := ⟨w.heap.size + 2, 0, none⟩) (by show w.heap.size + 2 < _; omega)).trans m4
      have n5 := (hbr.cell (p := ⟨w.heap.size + 2, 1, none⟩) (by show w.heap.size + 2 < _; omega)).trans m5
      have nf : ∀ o, wr.frozen? ⟨w.heap.size + 2, o, none⟩ = false := fun o => (hbr.frozen (p := ⟨w.heap.size + 2, o, none⟩) (by show w.heap.size + 2 < _; omega)).trans (mf o)
      have hbw : Below w.heap.size w wr := Below.trans hbW (Below.mono hbr (by omega))
      have hbw' := hid hbw
      clear m0 m1 m2 m3 m4 m5 mf
      by_cases hgo : ∃ h : k < xs.length, xs[k].1 < f
      · obtain ⟨hlt, hlf⟩ := hgo
        obtain ⟨b', o', hA, hbx, hcx⟩ := hx k xs[k] (List.getElem?_eq_getElem hlt)
        cases hA
        have hx0 := (hbw.cell (p := ⟨bx, _, none⟩) hbx).trans (hcx 0 _ rfl)
        clear hcx
        simp only [Nat.add_zero] at hx0
        have HLF := hid hlf
        generalize xs[k].1 = p at hx0 hlf
        go_wp2_with (fail)
        go_region_held3 (fun w' => w'.cell? ⟨w.heap.size, 1, none⟩ = some (.slice (some ⟨bx, ox, none⟩) xs.length cap) ∧ w'.cell? ⟨w.heap.size + 1, 0, none⟩ = some (.int .i64 f) ∧ w'.cell? ⟨bx, ox + k * 2, none⟩ = some (.int .i64 p)) (first | assumption | exact ⟨n1, n2, hx0⟩) (fail)
        go_wp2_with (fail)
        go_roundw
        case rel =>
          refine ⟨k + 1, by omega, by go_num, ?_, by (repeat' (first | exact Below.refl _ _ | assumption | refine Below.setCell ?_ ?_ _ | refine Below.drew ?_ | refine Below.alloc ?_ ?_ _ | refine Below.trans ?_ (Below.mono (by assumption) ?_) | (simp; done) | (simp; omega) | omega))⟩
          intro q hq hk1
          by_cases hqk : q < k
          · exact HL.out q hq hqk
          · have : q = k := by omega
            subst this
            exact HLF.out
        case measure => simp [intOf]; omega
      have hpk : posI f xs = k := posI_at hk HL.out (fun h h2 => hgo ⟨h, h2⟩)
      have hins : insI xs (f, t) = xs.take k ++ (f, t) :: xs.drop k := by simp only [insI, hpk]
      have HINS := hid hins
      have HINL := hid (insI_len xs (f, t))
      clear hins hpk HL
      have hgoK := hid hgo
      clear hgo
      by_cases hlt : k < xs.length
      · have hnf : ¬ xs[k].1 < f := fun h => hgoK.out ⟨hlt, h⟩
        obtain ⟨b', o', hA, hbx, hcx⟩ := hx k xs[k] (List.getElem?_eq_getElem hlt)
        cases hA
        have hx0 := (hbw.cell (p := ⟨bx, _, none⟩) hbx).trans (hcx 0 _ rfl)
        clear hcx
        simp only [Nat.add_zero] at hx0
        generalize xs[k].1 = p at hx0 hnf
        go_wp2_with (fail)
        go_region_held3 (fun w' => w'.cell? ⟨w.heap.size, 1, none⟩ = some (.slice (some ⟨bx, ox, none⟩) xs.length cap) ∧ w'.cell? ⟨w.heap.size + 1, 0, none⟩ = some (.int .i64 f) ∧ w'.cell? ⟨bx, ox + k * 2, none⟩ = some (.int .i64 p)) (first | assumption | exact ⟨n1, n2, hx0⟩) (fail)
        go_wp2_with (fail)
        clear hx0 hnf hbx
        refine wp_named ?_
        intro WA hWA
        have p0 : WA.cell? ⟨w.heap.size, 0, none⟩ = some (.int .i64 d) := by rw [hWA]; exact n0
        have p1 : WA.cell? ⟨w.heap.size, 1, none⟩ = some (.slice (some ⟨bx, ox, none⟩) xs.length cap) := by rw [hWA]; exact n1
        have p2 : WA.cell? ⟨w.heap.size + 1, 0, none⟩ = some (.int .i64 f) := by rw [hWA]; exact n2
        have p3 : WA.cell? ⟨w.heap.size + 1, 1, none⟩ = some (.int .i64 t) := by rw [hWA]; exact n3
        have p4 : WA.cell? ⟨w.heap.size + 2, 0, none⟩ = some (.int .i64 0) := by rw [hWA]; exact n4
        have p5 : WA.cell? ⟨w.heap.size + 2, 1, none⟩ = some (.slice none 0 0) := by rw [hWA]; exact n5
        have pf : ∀ o, WA.frozen? ⟨w.heap.size + 2, o, none⟩ = false := by rw [hWA]; exact nf
        have hzA : wr.heap.size ≤ WA.heap.size := by rw [hWA]; exact Nat.le_refl _
        have hbA : Below w.heap.size w WA := by rw [hWA]; first | exact Below.drew hbw'.out | exact below_dn hbw'.out | exact hbw'.out
        have HBA := hid hbA
        have HXA := hid (Rds.below hx hbA)
        clear hWA n0 n1 n2 n3 n4 n5 nf hbr hbw hbw' hbW hbA
        have HKEEP : Hid (∀ w', Below WA.heap.size WA w' → w'.cell? ⟨w.heap.size, 0, none⟩ = some (.int .i64 d) ∧ w'.cell? ⟨w.heap.size, 1, none⟩ = some (.slice (some ⟨bx, ox, none⟩) xs.length cap) ∧ w'.cell? ⟨w.heap.size + 1, 0, none⟩ = some (.int .i64 f) ∧ w'.cell? ⟨w.heap.size + 1, 1, none⟩ = some (.int .i64 t)) := fun w' hb => ⟨(hb.cell (p := ⟨w.heap.size, 0, none⟩) (by show w.heap.size < _; omega)).trans p0, (hb.cell (p := ⟨w.heap.size, 1, none⟩) (by show w.heap.size < _; omega)).trans p1, (hb.cell (p := ⟨w.heap.size + 1, 0, none⟩) (by show w.heap.size + 1 < _; omega)).trans p2, (hb.cell (p := ⟨w.heap.size + 1, 1, none⟩) (by show w.heap.size + 1 < _; omega)).trans p3⟩
        have HKEP2 : Hid (∀ w', Below WA.heap.size WA w' → w'.cell? ⟨w.heap.size + 2, 0, none⟩ = some (.int .i64 0) ∧ w'.cell? ⟨w.heap.size + 2, 1, none⟩ = some (.slice none 0 0) ∧ ∀ o, w'.frozen? ⟨w.heap.size + 2, o, none⟩ = false) := fun w' hb => ⟨(hb.cell (p := ⟨w.heap.size + 2, 0, none⟩) (by show w.heap.size + 2 < _; omega)).trans p4, (hb.cell (p := ⟨w.heap.size + 2, 1, none⟩) (by show w.heap.size + 2 < _; omega)).trans p5, fun o => (hb.frozen (p := ⟨w.heap.size + 2, o, none⟩) (by show w.heap.size + 2 < _; omega)).trans (pf o)⟩
        clear p0 p1 p2 p3 p4 p5 pf
        refine wp_region_o (n := 12) bkI [2, 5, 8, 9, 10, 11] [2, 5, 9] (FACi w.heap.size d (some ⟨bx, ox, none⟩) xs cap k f t WA.heap.size) rfl (by kernel_rfl) (by kernel_rfl) (by intro j hj; simp at hj ⊢; omega) (fun _ _ d _ _ h => by cases d <;> exact h) ?_ ?_ ?_ ?_
        · intro iq v w1 w2 row hF hg hb hl
          match iq with
          | 0 => exact hF
          | 1 => exact hF
          | 2 => exact SlO.keep hF hg (hb (by decide))
          | 3 => exact hF
          | 4 => exact hF
          | 5 => exact SlO.keep hF hg (hb (by decide))
          | 6 => exact hF
          | 7 => exact hF
          | 8 => exact BxO.keep hF hg (hb (by decide))
          | 9 => exact SlO.keep hF hg (hb (by decide))
          | 10 => exact AgO.keep hF hg (hb (by decide))
          | 11 => exact ObO.keep hF hg (hb (by decide))
          | m + 12 => exact (show True from trivial)
        · intro iq hi v w1 hF
          have hcase : iq = 2 ∨ iq = 5 ∨ iq = 8 ∨ iq = 9 ∨ iq = 10 ∨ iq = 11 := by simpa using hi
          rcases hcase with rfl | rfl | rfl | rfl | rfl | rfl
          · exact SlO.at_ hF
          · exact SlO.at_ hF
          · exact BxO.at_ hF
          · exact SlO.at_ hF
          · exact AgO.at_ hF
          · exact ObO.at_ hF
        · intro iq o hi ho vals w1 hb1 hf hd
          match iq, hi with
          | 0, _ =>
            injection ho with ho
            subst ho
            clear hf hd
            have hz1 := hb1.size
            simp only [fillA, List.take, List.drop, put_none, Act.put, List.setIfInBounds_toArray, List.set_cons_zero, List.set_cons_succ, Nat.reduceAdd]
            go_wp2_with (fail)
            exact ⟨rfl, rfl, none, .inl rfl, World.grownBy.refl _ _, (by first | rfl | (simp [FACi]; done) | (simp [FACi, *]; done) | (simp [FACi, gotV]; done) | (simp [FACi, gotV, *]; done)), fun h => absurd h (by decide)⟩
          | 1, _ =>
            injection ho with ho
            subst ho
            have e0 : vals 0 = .pointer (some ⟨w.heap.size, 0, none⟩) := hf 0 (by decide) (by kernel_rfl)
            clear hf hd
            have hz1 := hb1.size
            simp only [fillA, List.take, List.drop, put_none, Act.put, List.setIfInBounds_toArray, List.set_cons_zero, List.set_cons_succ, Nat.reduceAdd, e0]
            have hK := HKEEP.out w1 hb1
            obtain ⟨k0, k1, k2, k3⟩ := hK
            go_wp2_with (fail)
            exact ⟨rfl, rfl, none, .inl rfl, World.grownBy.refl _ _, (by first | rfl | (simp [FACi]; done) | (simp [FACi, *]; done) | (simp [FACi, gotV]; done) | (simp [FACi, gotV, *]; done)), fun h => absurd h (by decide)⟩
          | 2, _ =>
            injection ho with ho
            subst ho
            clear hf hd
            have hz1 := hb1.size
            simp only [fillA, List.take, List.drop, put_none, Act.put, List.setIfInBounds_toArray, List.set_cons_zero, List.set_cons_succ, Nat.reduceAdd]
            go_wp2_with (fail)
            exact ⟨rfl, rfl, none, .inl rfl, World.grownBy_alloc _ _ _, ⟨_, _, rfl, FreshA.newh rfl hz1⟩, fun _ => .inr (.inr ⟨_, rfl, Nat.le_refl _⟩)⟩
          | 3, _ =>
            injection ho with ho
            subst ho
            clear hf hd
            have hz1 := hb1.size
            simp only [fillA, List.take, List.drop, put_none, Act.put, List.setIfInBounds_toArray, List.set_cons_zero, List.set_cons_succ, Nat.reduceAdd]
            go_wp2_with (fail)
            exact ⟨rfl, rfl, none, .inl rfl, World.grownBy.refl _ _, (by first | rfl | (simp [FACi]; done) | (simp [FACi, *]; done) | (simp [FACi, gotV]; done) | (simp [FACi, gotV, *]; done)), fun h => absurd h (by decide)⟩
          | 4, _ =>
            injection ho with ho
            subst ho
            have e3 : vals 3 = .pointer (some ⟨w.heap.size, 1, none⟩) := hf 3 (by decide) (by kernel_rfl)
            clear hf hd
            have hz1 := hb1.size
            simp only [fillA, List.take, List.drop, put_none, Act.put, List.setIfInBounds_toArray, List.set_cons_zero, List.set_cons_succ, Nat.reduceAdd, e3]
            have hK := HKEEP.out w1 hb1
            obtain ⟨k0, k1, k2, k3⟩ := hK
            go_wp2_with (fail)
            exact ⟨rfl, rfl, none, .inl rfl, World.grownBy.refl _ _, (by first | rfl | (simp [FACi]; done) | (simp [FACi, *]; done) | (simp [FACi, gotV]; done) | (simp [FACi, gotV, *]; done)), fun h => absurd h (by decide)⟩
          | 5, _ =>
            injection ho with ho
            subst ho
            obtain ⟨A2, c2, e2, hF2⟩ := hf 2 (by decide) (by kernel_rfl)
            have e4 : vals 4 = .slice (some ⟨bx, ox, none⟩) xs.length cap := hf 4 (by decide) (by kernel_rfl)
            clear hf hd
            have hz1 := hb1.size
            simp only [fillA, List.take, List.drop, put_none, Act.put, List.setIfInBounds_toArray, List.set_cons_zero, List.set_cons_succ, Nat.reduceAdd, e2, e4]
            refine wpList_pushesR (xs := ([] : List (Int × Int))) rfl (.tmp 32) (.tmp 34) 27 rfl 50 i0 _ 16 Try.underlying27 hI0 hI1 hI2 hI3 rfl (by decide) (fun _ => rfl) one_Iv 0 rfl rfl hF2 xs xs.length rfl (some ⟨bx, ox, none⟩) _ rfl (Rds.below HXA.out hb1) (by unfold maxLen; omega) (by omega) hz1 ?_
            intro A' cp' w' hF' hg' hat'
            exact RQO_of (.slice A' (0 + xs.length) cp') rfl (by first | rfl | (simp [gotV]; done) | (simp [gotV, *]; done)) ⟨blkO A2, .inr ⟨2, by decide, by decide, by kernel_rfl, by rw [e2, bkI_sl]⟩, hg', ⟨A', cp', by first | rfl | (simp; done) | (congr 1; omega), by simpa using hF'⟩, fun _ => by rw [← bkI_sl (m := 0) (c := 0) (A := A2)]; exact bkI_hat hat'⟩
          | 6, _ =>
            injection ho with ho
            subst ho
            clear hf hd
            have hz1 := hb1.size
            simp only [fillA, List.take, List.drop, put_none, Act.put, List.setIfInBounds_toArray, List.set_cons_zero, List.set_cons_succ, Nat.reduceAdd]
            go_wp2_with (fail)
            exact ⟨rfl, rfl, none, .inl rfl, World.grownBy.refl _ _, (by first | rfl | (simp [FACi]; done) | (simp [FACi, *]; done) | (simp [FACi, gotV]; done) | (simp [FACi, gotV, *]; done)), fun h => absurd h (by decide)⟩
          | 7, _ =>
            injection ho with ho
            subst ho
            clear hf hd
            have hz1 := hb1.size
            simp only [fillA, List.take, List.drop, put_none, Act.put, List.setIfInBounds_toArray, List.set_cons_zero, List.set_cons_succ, Nat.reduceAdd]
            have hK := HKEEP.out w1 hb1
            obtain ⟨k0, k1, k2, k3⟩ := hK
            go_wp2_with (fail)
            exact ⟨rfl, rfl, none, .inl rfl, World.grownBy.refl _ _, (by first | rfl | (simp [FACi]; done) | (simp [FACi, *]; done) | (simp [FACi, gotV]; done) | (simp [FACi, gotV, *]; done)), fun h => absurd h (by decide)⟩
          | 8, _ =>
            injection ho with ho
            subst ho
            have e7 : vals 7 = .agg #[.int .i64 f, .int .i64 t] := hf 7 (by decide) (by kernel_rfl)
            clear hf hd
            have hz1 := hb1.size
            simp only [fillA, List.take, List.drop, put_none, Act.put, List.setIfInBounds_toArray, List.set_cons_zero, List.set_cons_succ, Nat.reduceAdd, e7]
            go_wp2_with (fail)
            exact ⟨rfl, rfl, none, .inl rfl, World.grownBy_alloc _ _ _, ⟨_, rfl, hz1, heap_alloc_new _ _⟩, fun _ => .inr (.inr ⟨_, rfl, Nat.le_refl _⟩)⟩
          | 9, _ =>
            injection ho with ho
            subst ho
            obtain ⟨A5, c5, e5, hF5⟩ := hf 5 (by decide) (by kernel_rfl)
            have e6 : vals 6 = .int .i64 ((k : Nat) : Int) := hf 6 (by decide) (by kernel_rfl)
            obtain ⟨g8, e8, hB8, hh8⟩ := hf 8 (by decide) (by kernel_rfl)
            have hd5_8 := hd 5 8 (by decide) (by decide) (by decide) (by kernel_rfl) (by kernel_rfl) (by decide) (by decide)
            simp only [e5, e8, bkI_sl, bkI_ag] at hd5_8
            clear hf hd
            have hz1 := hb1.size
            simp only [fillA, List.take, List.drop, put_none, Act.put, List.setIfInBounds_toArray, List.set_cons_zero, List.set_cons_succ, Nat.reduceAdd, e5, e6, e8]
            go_wp2_with (go_at_call 69; refine (c_Insert A5 c5 xs k WA.heap.size (f, t) g8 1 w1 hF5 (by omega) hh8 (fun a ha => ?_) hz1 (by omega)).mono ?_)
            · subst ha
              rcases hd5_8 with h | h
              · cases h
              · intro e
                exact h (by rw [← e]; rfl)
            rintro e w5 ⟨A5', cp5, rfl, hF5', hg5, hat5⟩
            go_wp2_with (fail)
            exact RQO_of (.slice A5' (xs.length + 1) cp5) rfl (by first | rfl | (simp [gotV]; done) | (simp [gotV, *]; done)) ⟨blkO A5, .inr ⟨5, by decide, by decide, by kernel_rfl, by rw [e5, bkI_sl]⟩, hg5, ⟨A5', cp5, rfl, by rw [HINS.out]; exact hF5'⟩, fun _ => by rw [← bkI_sl (m := 0) (c := 0) (A := A5)]; exact bkI_hat hat5⟩
          | 10, _ =>
            injection ho with ho
            subst ho
            have e1 : vals 1 = .int .i64 d := hf 1 (by decide) (by kernel_rfl)
            obtain ⟨A9, c9, e9, hF9⟩ := hf 9 (by decide) (by kernel_rfl)
            clear hf hd
            have hz1 := hb1.size
            simp only [fillA, List.take, List.drop, put_none, Act.put, List.setIfInBounds_toArray, List.set_cons_zero, List.set_cons_succ, Nat.reduceAdd, e1, e9]
            go_wp2_with (fail)
            exact RQO_of (.agg #[.int .i64 d, .slice A9 (xs.length + 1) c9]) rfl (by first | rfl | (simp [gotV]; done) | (simp [gotV, *]; done)) ⟨blkO A9, .inr ⟨9, by decide, by decide, by kernel_rfl, by rw [e9, bkI_sl]⟩, World.grownBy.refl _ _, ⟨A9, c9, rfl, hF9⟩, fun _ => .inr (.inl bkI_ag)⟩
          | 11, _ =>
            injection ho with ho
            subst ho
            clear hf hd
            have hz1 := hb1.size
            simp only [fillA, List.take, List.drop, put_none, Act.put, List.setIfInBounds_toArray, List.set_cons_zero, List.set_cons_succ, Nat.reduceAdd]
            go_wp2_with (fail)
            exact ⟨rfl, rfl, none, .inl rfl, World.grownBy_alloc _ _ _, ⟨_, rfl, hz1, heap_alloc_new _ _⟩, fun _ => .inr (.inr ⟨_, rfl, Nat.le_refl _⟩)⟩
          | m + 12, h => exact absurd h (by omega)
        · intro vals W5 hb5 hf hd
          have e0 : vals 0 = .pointer (some ⟨w.heap.size, 0, none⟩) := hf 0 (by decide) (by decide)
          have e1 : vals 1 = .int .i64 d := hf 1 (by decide) (by decide)
          have e3 : vals 3 = .pointer (some ⟨w.heap.size, 1, none⟩) := hf 3 (by decide) (by decide)
          have e4 : vals 4 = .slice (some ⟨bx, ox, none⟩) xs.length cap := hf 4 (by decide) (by decide)
          have e6 : vals 6 = .int .i64 ((k : Nat) : Int) := hf 6 (by decide) (by decide)
          have e7 : vals 7 = .agg #[.int .i64 f, .int .i64 t] := hf 7 (by decide) (by decide)
          obtain ⟨g8, e8, hB8, hh8⟩ := hf 8 (by decide) (by decide)
          obtain ⟨A10, c10, e10, hF10⟩ := hf 10 (by decide) (by decide)
          obtain ⟨g11, e11, hB11, hh11⟩ := hf 11 (by decide) (by decide)
          have hd8_10 := hd 8 10 (by decide) (by decide) (by decide) (by decide) (by decide) (by decide) (by decide)
          have hd8_11 := hd 8 11 (by decide) (by decide) (by decide) (by decide) (by decide) (by decide) (by decide)
          have hd10_11 := hd 10 11 (by decide) (by decide) (by decide) (by decide) (by decide) (by decide) (by decide)
          simp only [e8, e10, e11, bkI_sl, bkI_ag] at hd8_10 hd8_11 hd10_11
          clear hf hd
          simp only [fillA, List.take, List.drop, put_none, Act.put, List.setIfInBounds_toArray, List.set_cons_zero, List.set_cons_succ, Nat.reduceAdd, e0, e1, e3, e4, e6, e7, e8, e10, e11]
          have ht0 := Fresh.cell hh11 0
          have ht1 := Fresh.cell hh11 1
          have htf := Fresh.froz hh11
          simp at ht0 ht1
          have hgl := Fresh.lt hh11
          have hzW := HBA.out.size
          have hne : NeB g11 A10 := by
            intro a ha e
            subst ha
            rcases hd10_11 with h | h
            · cases h
            · exact h (by rw [← e]; rfl)
          have hbw5 : Below w.heap.size w W5 := Below.trans HBA.out (Below.mono hb5 (by omega))
          have HF6 := hid (hF10.mono (B' := w.heap.size + 3) (by omega))
          have HBW5 := hid hbw5
          have HK2 := hid (HKEP2.out W5 hb5)
          have hz5 := hb5.size
          have HNE := hid hne
          clear hF10 hb5 hbw5 HKEEP HKEP2 hh11 hd10_11 hne
          go_wp2_with (fail)
          refine calls_named ?_
          intro V hV
          have r0 : V.cell? ⟨g11, 0, none⟩ = some (.int .i64 d) := by rw [hV]; simp [cellSet, ht0, ht1]
          have r1 : V.cell? ⟨g11, 1, none⟩ = some (.slice A10 (xs.length + 1) c10) := by rw [hV]; simp [cellSet, ht0, ht1]
          have hTV : g11 < V.heap.size := by rw [hV]; simpa [World.setCell] using hgl
          have hFV : FreshA cIv 2 50 (w.heap.size + 3) V A10 c10 (insI xs (f, t)) := by rw [hV]; exact (HF6.out.set_neb (p := ⟨g11, 0, none⟩) HNE.out _).set_neb (p := ⟨g11, 1, none⟩) HNE.out _
          have hKV : Below (w.heap.size + 3) W5 V := by rw [hV]; exact Below.setCell (Below.setCell (Below.refl _ _) (by show w.heap.size + 3 ≤ g11; omega) _) (by show w.heap.size + 3 ≤ g11; omega) _
          obtain ⟨q4, q5, qf⟩ := HK2.out
          have s4 : V.cell? ⟨w.heap.size + 2, 0, none⟩ = some (.int .i64 0) := (hKV.cell (p := ⟨w.heap.size + 2, 0, none⟩) (by show w.heap.size + 2 < _; omega)).trans q4
          have s5 : V.cell? ⟨w.heap.size + 2, 1, none⟩ = some (.slice none 0 0) := (hKV.cell (p := ⟨w.heap.size + 2, 1, none⟩) (by show w.heap.size + 2 < _; omega)).trans q5
          have sf : ∀ o, V.frozen? ⟨w.heap.size + 2, o, none⟩ = false := fun o => (hKV.frozen (p := ⟨w.heap.size + 2, o, none⟩) (by show w.heap.size + 2 < _; omega)).trans (qf o)
          have hbV : Below w.heap.size w V := Below.trans HBW5.out (Below.mono hKV (by omega))
          have hVs := hKV.size
          have HBW := hid hbV
          have HFV := hid hFV
          clear q4 q5 qf HK2 HF6 HBW5 hKV hbV hFV hV ht0 ht1 htf HNE
          have hval := c_impl_IsValidBridge d A10 (insI xs (f, t)) c10 V HFV.out.rds (by rw [HINL.out]; omega)
          rw [HINL.out] at hval
          refine hval.mono ?_
          rintro e W7 ⟨rfl, hb7⟩
          have hc7 := cellOf hb7; have hf7 := frozOf hb7; have hz7 := sizeOf hb7; (try simp at hz7)
          cases hg2 : brB d (insI xs (f, t))
          · have hV2 : addV d xs (f, t) = ((0, []), false) := by simp [addV, hg2]
            have HV2 := hid hV2
            clear hV2
            simp only [hg2]
            go_wp2_with (fail)
            refine bodyPost_ret (v := .tuple #[.agg #[.int .i64 0, .slice none 0 0], .bool false]) ?_ rfl ?_
            · simp [results, Try.results35, go_sem, ↓IntWalk.iteOmega, *]
            · simp only [HV2.out]
              refine ⟨none, 0, rfl, .inl ⟨rfl, rfl, rfl⟩, ?_⟩
              have hb8 : Below w.heap.size w W7 := Below.trans HBW.out (Below.mono hb7 (by omega))
              repeat' (first | with_reducible exact hb8 | with_reducible refine Below.setCell ?_ ?_ _ | (dsimp only; omega))
          have hV2 : addV d xs (f, t) = ((d, insI xs (f, t)), true) := by simp only [addV, hg, hg2, and_self, if_true]
          have HV2 := hid hV2
          clear hV2
          simp only [hg2]
          have HF7 := hid (HFV.out.below hb7)
          have hb8 : Below w.heap.size w W7 := Below.trans HBW.out (Below.mono hb7 (by omega))
          have HB8 := hid hb8
          clear hb8 HBW HFV
          go_wp2_with (fail)
          refine bodyPost_ret (v := .tuple #[.agg #[.int .i64 d, .slice A10 (xs.length + 1) c10], .bool true]) ?_ rfl ?_
          · simp [results, Try.results35, go_sem, ↓IntWalk.iteOmega, *]
          · simp only [HV2.out, HINL.out]
            refine ⟨A10, c10, rfl, ?_, ?_⟩
            · refine FreshA.mono (B := w.heap.size + 3) ?_ (by omega)
              repeat' (first | with_reducible exact HF7.out | with_reducible refine FreshA.set_low ?_ ?_ _ | (dsimp only; omega))
            · repeat' (first | with_reducible exact HB8.out | with_reducible refine Below.setCell ?_ ?_ _ | (dsimp only; omega))

      obtain rfl : k = xs.length := by omega
      go_wp2_with (fail)
      go_quiet (fail)
      go_wp2_with (fail)
      refine wp_named ?_
      intro WA hWA
      have p0 : WA.cell? ⟨w.heap.size, 0, none⟩ = some (.int .i64 d) := by rw [hWA]; exact n0
      have p1 : WA.cell? ⟨w.heap.size, 1, none⟩ = some (.slice (some ⟨bx, ox, sp⟩) xs.length cap) := by rw [hWA]; exact n1
      have p2 : WA.cell? ⟨w.heap.size + 1, 0, none⟩ = some (.int .i64 f) := by rw [hWA]; exact n2
      have p3 : WA.cell? ⟨w.heap.size + 1, 1, none⟩ = some (.int .i64 t) := by rw [hWA]; exact n3
      have p4 : WA.cell? ⟨w.heap.size + 2, 0, none⟩ = some (.int .i64 0) := by rw [hWA]; exact n4
      have p5 : WA.cell? ⟨w.heap.size + 2, 1, none⟩ = some (.slice none 0 0) := by rw [hWA]; exact n5
      have pf : ∀ o, WA.frozen? ⟨w.heap.size + 2, o, none⟩ = false := by rw [hWA]; exact nf
      have hzA : wr.heap.size ≤ WA.heap.size := by rw [hWA]; exact Nat.le_refl _
      have hbA : Below w.heap.size w WA := by rw [hWA]; first | exact Below.drew hbw'.out | exact below_dn hbw'.out | exact hbw'.out
      have HBA := hid hbA
      have HXA := hid (Rds.below hx hbA)
      clear hWA n0 n1 n2 n3 n4 n5 nf hbr hbw hbw' hbW hbA
      have HKEEP : Hid (∀ w', Below WA.heap.size WA w' → w'.cell? ⟨w.heap.size, 0, none⟩ = some (.int .i64 d) ∧ w'.cell? ⟨w.heap.size, 1, none⟩ = some (.slice (some ⟨bx, ox, sp⟩) xs.length cap) ∧ w'.cell? ⟨w.heap.size + 1, 0, none⟩ = some (.int .i64 f) ∧ w'.cell? ⟨w.heap.size + 1, 1, none⟩ = some (.int .i64 t)) := fun w' hb => ⟨(hb.cell (p := ⟨w.heap.size, 0, none⟩) (by show w.heap.size < _; omega)).trans p0, (hb.cell (p := ⟨w.heap.size, 1, none⟩) (by show w.heap.size < _; omega)).trans p1, (hb.cell (p := ⟨w.heap.size + 1, 0, none⟩) (by show w.heap.size + 1 < _; omega)).trans p2, (hb.cell (p := ⟨w.heap.size + 1, 1, none⟩) (by show w.heap.size + 1 < _; omega)).trans p3⟩
      have HKEP2 : Hid (∀ w', Below WA.heap.size WA w' → w'.cell? ⟨w.heap.size + 2, 0, none⟩ = some (.int .i64 0) ∧ w'.cell? ⟨w.heap.size + 2, 1, none⟩ = some (.slice none 0 0) ∧ ∀ o, w'.frozen? ⟨w.heap.size + 2, o, none⟩ = false) := fun w' hb => ⟨(hb.cell (p := ⟨w.heap.size + 2, 0, none⟩) (by show w.heap.size + 2 < _; omega)).trans p4, (hb.cell (p := ⟨w.heap.size + 2, 1, none⟩) (by show w.heap.size + 2 < _; omega)).trans p5, fun o => (hb.frozen (p := ⟨w.heap.size + 2, o, none⟩) (by show w.heap.size + 2 < _; omega)).trans (pf o)⟩
      clear p0 p1 p2 p3 p4 p5 pf
      refine wp_region_o (n := 12) bkI [2, 5, 8, 9, 10, 11] [2, 5, 9] (FACi w.heap.size d (some ⟨bx, ox, sp⟩) xs cap xs.length f t WA.heap.size) rfl (by kernel_rfl) (by kernel_rfl) (by intro j hj; simp at hj ⊢; omega) (fun _ _ d _ _ h => by cases d <;> exact h) ?_ ?_ ?_ ?_
      · intro iq v w1 w2 row hF hg hb hl
        match iq with
        | 0 => exact hF
        | 1 => exact hF
        | 2 => exact SlO.keep hF hg (hb (by decide))
        | 3 => exact hF
        | 4 => exact hF
        | 5 => exact SlO.keep hF hg (hb (by decide))
        | 6 => exact hF
        | 7 => exact hF
        | 8 => exact BxO.keep hF hg (hb (by decide))
        | 9 => exact SlO.keep hF hg (hb (by decide))
        | 10 => exact AgO.keep hF hg (hb (by decide))
        | 11 => exact ObO.keep hF hg (hb (by decide))
        | m + 12 => exact (show True from trivial)
      · intro iq hi v w1 hF
        have hcase : iq = 2 ∨ iq = 5 ∨ iq = 8 ∨ iq = 9 ∨ iq = 10 ∨ iq = 11 := by simpa using hi
        rcases hcase with rfl | rfl | rfl | rfl | rfl | rfl
        · exact SlO.at_ hF
        · exact SlO.at_ hF
        · exact BxO.at_ hF
        · exact SlO.at_ hF
        · exact AgO.at_ hF
        · exact ObO.at_ hF
      · intro iq o hi ho vals w1 hb1 hf hd
        match iq, hi with
        | 0, _ =>
          injection ho with ho
          subst ho
          clear hf hd
          have hz1 := hb1.size
          simp only [fillA, List.take, List.drop, put_none, Act.put, List.setIfInBounds_toArray, List.set_cons_zero, List.set_cons_succ, Nat.reduceAdd]
          go_wp2_with (fail)
          exact ⟨rfl, rfl, none, .inl rfl, World.grownBy.refl _ _, (by first | rfl | (simp [FACi]; done) | (simp [FACi, *]; done) | (simp [FACi, gotV]; done) | (simp [FACi, gotV, *]; done)), fun h => absurd h (by decide)⟩
        | 1, _ =>
          injection ho with ho
          subst ho
          have e0 : vals 0 = .pointer (some ⟨w.heap.size, 0, none⟩) := hf 0 (by decide) (by kernel_rfl)
          clear hf hd
          have hz1 := hb1.size
          simp only [fillA, List.take, List.drop, put_none, Act.put, List.setIfInBounds_toArray, List.set_cons_zero, List.set_cons_succ, Nat.reduceAdd, e0]
          have hK := HKEEP.out w1 hb1
          obtain ⟨k0, k1, k2, k3⟩ := hK
          go_wp2_with (fail)
          exact ⟨rfl, rfl, none, .inl rfl, World.grownBy.refl _ _, (by first | rfl | (simp [FACi]; done) | (simp [FACi, *]; done) | (simp [FACi, gotV]; done) | (simp [FACi, gotV, *]; done)), fun h => absurd h (by decide)⟩
        | 2, _ =>
          injection ho with ho
          subst ho
          clear hf hd
          have hz1 := hb1.size
          simp only [fillA, List.take, List.drop, put_none, Act.put, List.setIfInBounds_toArray, List.set_cons_zero, List.set_cons_succ, Nat.reduceAdd]
          go_wp2_with (fail)
          exact ⟨rfl, rfl, none, .inl rfl, World.grownBy_alloc _ _ _, ⟨_, _, rfl, FreshA.newh rfl hz1⟩, fun _ => .inr (.inr ⟨_, rfl, Nat.le_refl _⟩)⟩
        | 3, _ =>
          injection ho with ho
          subst ho
          clear hf hd
          have hz1 := hb1.size
          simp only [fillA, List.take, List.drop, put_none, Act.put, List.setIfInBounds_toArray, List.set_cons_zero, List.set_cons_succ, Nat.reduceAdd]
          go_wp2_with (fail)
          exact ⟨rfl, rfl, none, .inl rfl, World.grownBy.refl _ _, (by first | rfl | (simp [FACi]; done) | (simp [FACi, *]; done) | (simp [FACi, gotV]; done) | (simp [FACi, gotV, *]; done)), fun h => absurd h (by decide)⟩
        | 4, _ =>
          injection ho with ho
          subst ho
          have e3 : vals 3 = .pointer (some ⟨w.heap.size, 1, none⟩) := hf 3 (by decide) (by kernel_rfl)
          clear hf hd
          have hz1 := hb1.size
          simp only [fillA, List.take, List.drop, put_none, Act.put, List.setIfInBounds_toArray, List.set_cons_zero, List.set_cons_succ, Nat.reduceAdd, e3]
          have hK := HKEEP.out w1 hb1
          obtain ⟨k0, k1, k2, k3⟩ := hK
          go_wp2_with (fail)
          exact ⟨rfl, rfl, none, .inl rfl, World.grownBy.refl _ _, (by first | rfl | (simp [FACi]; done) | (simp [FACi, *]; done) | (simp [FACi, gotV]; done) | (simp [FACi, gotV, *]; done)), fun h => absurd h (by decide)⟩
        | 5, _ =>
          injection ho with ho
          subst ho
          obtain ⟨A2, c2, e2, hF2⟩ := hf 2 (by decide) (by kernel_rfl)
          have e4 : vals 4 = .slice (some ⟨bx, ox, sp⟩) xs.length cap := hf 4 (by decide) (by kernel_rfl)
          clear hf hd
          have hz1 := hb1.size
          simp only [fillA, List.take, List.drop, put_none, Act.put, List.setIfInBounds_toArray, List.set_cons_zero, List.set_cons_succ, Nat.reduceAdd, e2, e4]
          refine wpList_pushesR (xs := ([] : List (Int × Int))) rfl (.tmp 32) (.tmp 34) 27 rfl 50 i0 _ 16 Try.underlying27 hI0 hI1 hI2 hI3 rfl (by decide) (fun _ => rfl) one_Iv 0 rfl rfl hF2 xs xs.length rfl (some ⟨bx, ox, sp⟩) _ rfl (Rds.below HXA.out hb1) (by unfold maxLen; omega) (by omega) hz1 ?_
          intro A' cp' w' hF' hg' hat'
          exact RQO_of (.slice A' (0 + xs.length) cp') rfl (by first | rfl | (simp [gotV]; done) | (simp [gotV, *]; done)) ⟨blkO A2, .inr ⟨2, by decide, by decide, by kernel_rfl, by rw [e2, bkI_sl]⟩, hg', ⟨A', cp', by first | rfl | (simp; done) | (congr 1; omega), by simpa using hF'⟩, fun _ => by rw [← bkI_sl (m := 0) (c := 0) (A := A2)]; exact bkI_hat hat'⟩
        | 6, _ =>
          injection ho with ho
          subst ho
          clear hf hd
          have hz1 := hb1.size
          simp only [fillA, List.take, List.drop, put_none, Act.put, List.setIfInBounds_toArray, List.set_cons_zero, List.set_cons_succ, Nat.reduceAdd]
          go_wp2_with (fail)
          exact ⟨rfl, rfl, none, .inl rfl, World.grownBy.refl _ _, (by first | rfl | (simp [FACi]; done) | (simp [FACi, *]; done) | (simp [FACi, gotV]; done) | (simp [FACi, gotV, *]; done)), fun h => absurd h (by decide)⟩
        | 7, _ =>
          injection ho with ho
          subst ho
          clear hf hd
          have hz1 := hb1.size
          simp only [fillA, List.take, List.drop, put_none, Act.put, List.setIfInBounds_toArray, List.set_cons_zero, List.set_cons_succ, Nat.reduceAdd]
          have hK := HKEEP.out w1 hb1
          obtain ⟨k0, k1, k2, k3⟩ := hK
          go_wp2_with (fail)
          exact ⟨rfl, rfl, none, .inl rfl, World.grownBy.refl _ _, (by first | rfl | (simp [FACi]; done) | (simp [FACi, *]; done) | (simp [FACi, gotV]; done) | (simp [FACi, gotV, *]; done)), fun h => absurd h (by decide)⟩
        | 8, _ =>
          injection ho with ho
          subst ho
          have e7 : vals 7 = .agg #[.int .i64 f, .int .i64 t] := hf 7 (by decide) (by kernel_rfl)
          clear hf hd
          have hz1 := hb1.size
          simp only [fillA, List.take, List.drop, put_none, Act.put, List.setIfInBounds_toArray, List.set_cons_zero, List.set_cons_succ, Nat.reduceAdd, e7]
          go_wp2_with (fail)
          exact ⟨rfl, rfl, none, .inl rfl, World.grownBy_alloc _ _ _, ⟨_, rfl, hz1, heap_alloc_new _ _⟩, fun _ => .inr (.inr ⟨_, rfl, Nat.le_refl _⟩)⟩
        | 9, _ =>
          injection ho with ho
          subst ho
          obtain ⟨A5, c5, e5, hF5⟩ := hf 5 (by decide) (by kernel_rfl)
          have e6 : vals 6 = .int .i64 ((xs.length : Nat) : Int) := hf 6 (by decide) (by kernel_rfl)
          obtain ⟨g8, e8, hB8, hh8⟩ := hf 8 (by decide) (by kernel_rfl)
          have hd5_8 := hd 5 8 (by decide) (by decide) (by decide) (by kernel_rfl) (by kernel_rfl) (by decide) (by decide)
          simp only [e5, e8, bkI_sl, bkI_ag] at hd5_8
          clear hf hd
          have hz1 := hb1.size
          simp only [fillA, List.take, List.drop, put_none, Act.put, List.setIfInBounds_toArray, List.set_cons_zero, List.set_cons_succ, Nat.reduceAdd, e5, e6, e8]
          go_wp2_with (go_at_call 69; refine (c_Insert A5 c5 xs xs.length WA.heap.size (f, t) g8 1 w1 hF5 (by omega) hh8 (fun a ha => ?_) hz1 (by omega)).mono ?_)
          · subst ha
            rcases hd5_8 with h | h
            · cases h
            · intro e
              exact h (by rw [← e]; rfl)
          rintro e w5 ⟨A5', cp5, rfl, hF5', hg5, hat5⟩
          go_wp2_with (fail)
          exact RQO_of (.slice A5' (xs.length + 1) cp5) rfl (by first | rfl | (simp [gotV]; done) | (simp [gotV, *]; done)) ⟨blkO A5, .inr ⟨5, by decide, by decide, by kernel_rfl, by rw [e5, bkI_sl]⟩, hg5, ⟨A5', cp5, rfl, by rw [HINS.out]; exact hF5'⟩, fun _ => by rw [← bkI_sl (m := 0) (c := 0) (A := A5)]; exact bkI_hat hat5⟩
        | 10, _ =>
          injection ho with ho
          subst ho
          have e1 : vals 1 = .int .i64 d := hf 1 (by decide) (by kernel_rfl)
          obtain ⟨A9, c9, e9, hF9⟩ := hf 9 (by decide) (by kernel_rfl)
          clear hf hd
          have hz1 := hb1.size
          simp only [fillA, List.take, List.drop, put_none, Act.put, List.setIfInBounds_toArray, List.set_cons_zero, List.set_cons_succ, Nat.reduceAdd, e1, e9]
          go_wp2_with (fail)
          exact RQO_of (.agg #[.int .i64 d, .slice A9 (xs.length + 1) c9]) rfl (by first | rfl | (simp [gotV]; done) | (simp [gotV, *]; done)) ⟨blkO A9, .inr ⟨9, by decide, by decide, by kernel_rfl, by rw [e9, bkI_sl]⟩, World.grownBy.refl _ _, ⟨A9, c9, rfl, hF9⟩, fun _ => .inr (.inl bkI_ag)⟩
        | 11, _ =>
          injection ho with ho
          subst ho
          clear hf hd
          have hz1 := hb1.size
          simp only [fillA, List.take, List.drop, put_none, Act.put, List.setIfInBounds_toArray, List.set_cons_zero, List.set_cons_succ, Nat.reduceAdd]
          go_wp2_with (fail)
          exact ⟨rfl, rfl, none, .inl rfl, World.grownBy_alloc _ _ _, ⟨_, rfl, hz1, heap_alloc_new _ _⟩, fun _ => .inr (.inr ⟨_, rfl, Nat.le_refl _⟩)⟩
        | m + 12, h => exact absurd h (by omega)
      · intro vals W5 hb5 hf hd
        have e0 : vals 0 = .pointer (some ⟨w.heap.size, 0, none⟩) := hf 0 (by decide) (by decide)
        have e1 : vals 1 = .int .i64 d := hf 1 (by decide) (by decide)
        have e3 : vals 3 = .pointer (some ⟨w.heap.size, 1, none⟩) := hf 3 (by decide) (by decide)
        have e4 : vals 4 = .slice (some ⟨bx, ox, sp⟩) xs.length cap := hf 4 (by decide) (by decide)
        have e6 : vals 6 = .int .i64 ((xs.length : Nat) : Int) := hf 6 (by decide) (by decide)
        have e7 : vals 7 = .agg #[.int .i64 f, .int .i64 t] := hf 7 (by decide) (by decide)
        obtain ⟨g8, e8, hB8, hh8⟩ := hf 8 (by decide) (by decide)
        obtain ⟨A10, c10, e10, hF10⟩ := hf 10 (by decide) (by decide)
        obtain ⟨g11, e11, hB11, hh11⟩ := hf 11 (by decide) (by decide)
        have hd8_10 := hd 8 10 (by decide) (by decide) (by decide) (by decide) (by decide) (by decide) (by decide)
        have hd8_11 := hd 8 11 (by decide) (by decide) (by decide) (by decide) (by decide) (by decide) (by decide)
        have hd10_11 := hd 10 11 (by decide) (by decide) (by decide) (by decide) (by decide) (by decide) (by decide)
        simp only [e8, e10, e11, bkI_sl, bkI_ag] at hd8_10 hd8_11 hd10_11
        clear hf hd
        simp only [fillA, List.take, List.drop, put_none, Act.put, List.setIfInBounds_toArray, List.set_cons_zero, List.set_cons_succ, Nat.reduceAdd, e0, e1, e3, e4, e6, e7, e8, e10, e11]
        have ht0 := Fresh.cell hh11 0
        have ht1 := Fresh.cell hh11 1
        have htf := Fresh.froz hh11
        simp at ht0 ht1
        have hgl := Fresh.lt hh11
        have hzW := HBA.out.size
        have hne : NeB g11 A10 := by
          intro a ha e
          subst ha
          rcases hd10_11 with h | h
          · cases h
          · exact h (by rw [← e]; rfl)
        have hbw5 : Below w.heap.size w W5 := Below.trans HBA.out (Below.mono hb5 (by omega))
        have HF6 := hid (hF10.mono (B' := w.heap.size + 3) (by omega))
        have HBW5 := hid hbw5
        have HK2 := hid (HKEP2.out W5 hb5)
        have hz5 := hb5.size
        have HNE := hid hne
        clear hF10 hb5 hbw5 HKEEP HKEP2 hh11 hd10_11 hne
        go_wp2_with (fail)
        refine calls_named ?_
        intro V hV
        have r0 : V.cell? ⟨g11, 0, none⟩ = some (.int .i64 d) := by rw [hV]; simp [cellSet, ht0, ht1]
        have r1 : V.cell? ⟨g11, 1, none⟩ = some (.slice A10 (xs.length + 1) c10) := by rw [hV]; simp [cellSet, ht0, ht1]
        have hTV : g11 < V.heap.size := by rw [hV]; simpa [World.setCell] using hgl
        have hFV : FreshA cIv 2 50 (w.heap.size + 3) V A10 c10 (insI xs (f, t)) := by rw [hV]; exact (HF6.out.set_neb (p := ⟨g11, 0, none⟩) HNE.out _).set_neb (p := ⟨g11, 1, none⟩) HNE.out _
        have hKV : Below (w.heap.size + 3) W5 V := by rw [hV]; exact Below.setCell (Below.setCell (Below.refl _ _) (by show w.heap.size + 3 ≤ g11; omega) _) (by show w.heap.size + 3 ≤ g11; omega) _
        obtain ⟨q4, q5, qf⟩ := HK2.out
        have s4 : V.cell? ⟨w.heap.size + 2, 0, none⟩ = some (.int .i64 0) := (hKV.cell (p := ⟨w.heap.size + 2, 0, none⟩) (by show w.heap.size + 2 < _; omega)).trans q4
        have s5 : V.cell? ⟨w.heap.size + 2, 1, none⟩ = some (.slice none 0 0) := (hKV.cell (p := ⟨w.heap.size + 2, 1, none⟩) (by show w.heap.size + 2 < _; omega)).trans q5
        have sf : ∀ o, V.frozen? ⟨w.heap.size + 2, o, none⟩ = false := fun o => (hKV.frozen (p := ⟨w.heap.size + 2, o, none⟩) (by show w.heap.size + 2 < _; omega)).trans (qf o)
        have hbV : Below w.heap.size w V := Below.trans HBW5.out (Below.mono hKV (by omega))
        have hVs := hKV.size
        have HBW := hid hbV
        have HFV := hid hFV
        clear q4 q5 qf HK2 HF6 HBW5 hKV hbV hFV hV ht0 ht1 htf HNE
        have hval := c_impl_IsValidBridge d A10 (insI xs (f, t)) c10 V HFV.out.rds (by rw [HINL.out]; omega)
        rw [HINL.out] at hval
        refine hval.mono ?_
        rintro e W7 ⟨rfl, hb7⟩
        have hc7 := cellOf hb7; have hf7 := frozOf hb7; have hz7 := sizeOf hb7; (try simp at hz7)
        cases hg2 : brB d (insI xs (f, t))
        · have hV2 : addV d xs (f, t) = ((0, []), false) := by simp [addV, hg2]
          have HV2 := hid hV2
          clear hV2
          simp only [hg2]
          go_wp2_with (fail)
          refine bodyPost_ret (v := .tuple #[.agg #[.int .i64 0, .slice none 0 0], .bool false]) ?_ rfl ?_
          · simp [results, Try.results35, go_sem, ↓IntWalk.iteOmega, *]
          · simp only [HV2.out]
            refine ⟨none, 0, rfl, .inl ⟨rfl, rfl, rfl⟩, ?_⟩
            have hb8 : Below w.heap.size w W7 := Below.trans HBW.out (Below.mono hb7 (by omega))
            repeat' (first | with_reducible exact hb8 | with_reducible refine Below.setCell ?_ ?_ _ | (dsimp only; omega))
        have hV2 : addV d xs (f, t) = ((d, insI xs (f, t)), true) := by simp only [addV, hg, hg2, and_self, if_true]
        have HV2 := hid hV2
        clear hV2
        simp only [hg2]
        have HF7 := hid (HFV.out.below hb7)
        have hb8 : Below w.heap.size w W7 := Below.trans HBW.out (Below.mono hb7 (by omega))
        have HB8 := hid hb8
        clear hb8 HBW HFV
        go_wp2_with (fail)
        refine bodyPost_ret (v := .tuple #[.agg #[.int .i64 d, .slice A10 (xs.length + 1) c10], .bool true]) ?_ rfl ?_
        · simp [results, Try.results35, go_sem, ↓IntWalk.iteOmega, *]
        · simp only [HV2.out, HINL.out]
          refine ⟨A10, c10, rfl, ?_, ?_⟩
          · refine FreshA.mono (B := w.heap.size + 3) ?_ (by omega)
            repeat' (first | with_reducible exact HF7.out | with_reducible refine FreshA.set_low ?_ ?_ _ | (dsimp only; omega))
          · repeat' (first | with_reducible exact HB8.out | with_reducible refine Below.setCell ?_ ?_ _ | (dsimp only; omega))

end Go.Proofs.Yteciijnpfapmhaa
namespace Go.Proofs.Yteciijnpfapmhaa
set_option linter.unusedSimpArgs false
set_option linter.unusedVariables false
open Go.RowKit

def FACs (AT : Option Addr) (bw : Nat) (d : Int) (A : Option Addr) (xs : List (Int × Int)) (cap k : Nat) (f t : Int) (B : Nat) (iq : Nat) (v : Value) (w1 : World) : Prop := match iq with
  | 0 => v = .pointer (some ⟨bw, 0, none⟩)
  | 1 => v = .int .i64 d
  | 2 => SlO cIv 2 50 B (([] : List (Int × Int))) (0) v w1
  | 3 => v = .pointer (some ⟨bw, 1, none⟩)
  | 4 => v = .slice A xs.length cap
  | 5 => v = .int .i64 ((k : Nat) : Int)
  | 6 => v = .slice A k cap
  | 7 => SlO cIv 2 50 B (xs.take k) (k) v w1
  | 8 => v = .agg #[.int .i64 f, .int .i64 t]
  | 9 => BxO B (.cells (cIv (f, t)).toArray 50 (0, 0)) v w1
  | 10 => SlO cIv 2 50 B (xs.take k ++ [(f, t)]) (k + 1) v w1
  | 11 => v = .pointer (some ⟨bw, 1, none⟩)
  | 12 => v = .slice A xs.length cap
  | 13 => v = .int .i64 ((k : Nat) : Int)
  | 14 => DrO AT xs.length k (cap - k) v w1
  | 15 => SlO cIv 2 50 B (insI xs (f, t)) (xs.length + 1) v w1
  | 16 => AgO d cIv 2 50 B (insI xs (f, t)) (xs.length + 1) v w1
  | 17 => ObO B (.cells #[.int .i64 0, .slice none 0 0] 29 (0, 0)) v w1
  | _ => True
set_option maxRecDepth 100000 in
set_option maxHeartbeats 4000000 in
theorem c_spec_AddClosure (d : Int) (A : Option Addr) (xs : List (Int × Int)) (cap : Nat) (f t : Int) (w : World) (hx : Rds cIv 2 w A xs) (hn : xs.length ≤ 9223372036854775807) (hcq : xs.length ≤ cap) :
    Calls Try.prog 33 #[.agg #[.int .i64 d, .slice A xs.length cap], .agg #[.int .i64 f, .int .i64 t]] w fun e w' => ∃ A' cap', e = .returned (.tuple #[.agg #[.int .i64 (addV d xs (f, t)).1.1, .slice A' (addV d xs (f, t)).1.2.length cap'], .bool (addV d xs (f, t)).2]) ∧ FreshA cIv 2 50 w.heap.size w' A' cap' (addV d xs (f, t)).1.2 ∧ Below w.heap.size w w' := by
  obtain ⟨i0, hI0, hI1, hI2, hI3⟩ := info_parts info_Iv
  rcases A with _ | ⟨bx, ox, sp⟩
  · cases hg : brB d xs
    · have hV : addV d xs (f, t) = ((0, []), false) := by simp [addV, hg]
      rw [hV]
      simp only
      clear hV
      go_enter Try.func33, Try.ntmps33
      go_wp2_with (fail)
      refine (c_spec_l15Good _ _ xs _ _ (by first | exact hx | exact Rds.below hx (by (repeat' (first | exact Below.refl _ _ | assumption | refine Below.setCell ?_ ?_ _ | refine Below.drew ?_ | refine Below.alloc ?_ ?_ _ | refine Below.trans ?_ (Below.mono (by assumption) ?_) | (simp; done) | (simp; omega) | omega)))) (by omega)).mono ?_
      rintro e W1 ⟨rfl, hb1⟩
      have hc1 := cellOf hb1; have hf1 := frozOf hb1; have hz1 := sizeOf hb1; (try simp at hz1)
      simp only [hg]
      go_wp2_with (fail)
      refine bodyPost_ret (v := .tuple #[.agg #[.int .i64 0, .slice none 0 0], .bool false]) ?_ rfl ⟨none, 0, rfl, .inl ⟨rfl, rfl, rfl⟩, by (repeat' (first | exact Below.refl _ _ | assumption | refine Below.setCell ?_ ?_ _ | refine Below.drew ?_ | refine Below.alloc ?_ ?_ _ | refine Below.trans ?_ (Below.mono (by assumption) ?_) | (simp; done) | (simp; omega) | omega))⟩
      simp [results, Try.results33, go_sem, ↓IntWalk.iteOmega, *]
    have hlen : xs.length ≤ 6 := brB_len hg
    go_enter Try.func33, Try.ntmps33
    go_wp2_with (fail)
    refine (c_spec_l15Good _ _ xs _ _ (by first | exact hx | exact Rds.below hx (by (repeat' (first | exact Below.refl _ _ | assumption | refine Below.setCell ?_ ?_ _ | refine Below.drew ?_ | refine Below.alloc ?_ ?_ _ | refine Below.trans ?_ (Below.mono (by assumption) ?_) | (simp; done) | (simp; omega) | omega)))) (by omega)).mono ?_
    rintro e W1 ⟨rfl, hb1⟩
    have hc1 := cellOf hb1; have hf1 := frozOf hb1; have hz1 := sizeOf hb1; (try simp at hz1)
    simp only [hg]
    go_wp2_with (fail)
    have m0 : W1.cell? ⟨w.heap.size, 0, none⟩ = some (.int .i64 d) := by first | (simp [go_sem, ↓IntWalk.iteOmega, *]; done) | (simp [go_sem, ↓IntWalk.iteOmega, *]; intros; omega)
    have m1 : W1.cell? ⟨w.heap.size, 1, none⟩ = some (.slice (none) xs.length cap) := by first | (simp [go_sem, ↓IntWalk.iteOmega, *]; done) | (simp [go_sem, ↓IntWalk.iteOmega, *]; intros; omega)
    have m2 : W1.cell? ⟨w.heap.size + 1, 0, none⟩ = some (.int .i64 f) := by first | (simp [go_sem, ↓IntWalk.iteOmega, *]; done) | (simp [go_sem, ↓IntWalk.iteOmega, *]; intros; omega)
    have m3 : W1.cell? ⟨w.heap.size + 1, 1, none⟩ = some (.int .i64 t) := by first | (simp [go_sem, ↓IntWalk.iteOmega, *]; done) | (simp [go_sem, ↓IntWalk.iteOmega, *]; intros; omega)
    have m4 : W1.cell? ⟨w.heap.size + 2, 0, none⟩ = some (.int .i64 0) := by first | (simp [go_sem, ↓IntWalk.iteOmega, *]; done) | (simp [go_sem, ↓IntWalk.iteOmega, *]; intros; omega)
    have m5 : W1.cell? ⟨w.heap.size + 2, 1, none⟩ = some (.slice none 0 0) := by first | (simp [go_sem, ↓IntWalk.iteOmega, *]; done) | (simp [go_sem, ↓IntWalk.iteOmega, *]; intros; omega)
    have mf : ∀ o, W1.frozen? ⟨w.heap.size + 2, o, none⟩ = false := fun o => by first | (simp [go_sem, ↓IntWalk.iteOmega, *]; done) | (simp [go_sem, ↓IntWalk.iteOmega, *]; intros; omega)
    have hbW : Below w.heap.size w W1 := by (repeat' (first | exact Below.refl _ _ | assumption | refine Below.setCell ?_ ?_ _ | refine Below.drew ?_ | refine Below.alloc ?_ ?_ _ | refine Below.trans ?_ (Below.mono (by assumption) ?_) | (simp; done) | (simp; omega) | omega))
    clear hc1 hf1 hb1
    go_loopw [6] (fun i wr => ∃ k : Nat, k ≤ xs.length ∧ i = .int .i64 k ∧ (∀ q (hq : q < xs.length), q < k → xs[q].1 < f) ∧ Below W1.heap.size W1 wr) (fun i _ => xs.length - (intOf i).toNat)
    case atStart => exact ⟨0, Nat.zero_le _, rfl, fun q hq hk => absurd hk (Nat.not_lt_zero q), Below.refl _ _⟩
    case round =>
      obtain ⟨k, hk, rfl, hl, hbr⟩ := hrel
      have HL := hid hl
      clear hl
      have hzr := hbr.size
      have n0 := (hbr.cell (p := ⟨w.heap.size, 0, none⟩) (by show w.heap.size < _; omega)).trans m0
      have n1 := (hbr.cell (p := ⟨w.heap.size, 1, none⟩) (by show w.heap.size < _; omega)).trans m1
      have n2 := (hbr.cell (p := ⟨w.heap.size + 1, 0, none⟩) (by show w.heap.size + 1 < _; omega)).trans m2
      have n3 := (hbr.cell (p := ⟨w.heap.size + 1, 1, none⟩) (by show w.heap.size + 1 < _; omega)).trans m3
      have n4 := (hbr.cell (p := ⟨w.heap.size + 2, 0, none⟩) (by show w.heap.size + 2 < _; omega)).trans m4
      have n5 := (hbr.cell (p := ⟨w.heap.size + 2, 1, none⟩) (by show w.heap.size + 2 < _; omega)).trans m5
      have nf : ∀ o, wr.frozen? ⟨w.heap.size + 2, o, none⟩ = false := fun o => (hbr.frozen (p := ⟨w.heap.size + 2, o, none⟩) (by show w.heap.size + 2 < _; omega)).trans (mf o)
      have hbw : Below w.heap.size w wr := Below.trans hbW (Below.mono hbr (by omega))
      have hbw' := hid hbw
      clear m0 m1 m2 m3 m4 m5 mf
      by_cases hgo : ∃ h : k < xs.length, xs[k].1 < f
      · obtain ⟨hlt, hlf⟩ := hgo
        exact absurd (hx k xs[k] (List.getElem?_eq_getElem hlt)) (fun ⟨_, _, hA, _⟩ => by cases hA)
      have hpk : posI f xs = k := posI_at hk HL.out (fun h h2 => hgo ⟨h, h2⟩)
      have hins : insI xs (f, t) = xs.take k ++ (f, t) :: xs.drop k := by simp only [insI, hpk]
      have HINS := hid hins
      have HINL := hid (insI_len xs (f, t))
      clear hins hpk HL
      have hgoK := hid hgo
      clear hgo
      have hlt : ¬ k < xs.length := fun hlt => (by exact absurd (hx k xs[k] (List.getElem?_eq_getElem hlt)) (fun ⟨_, _, hA, _⟩ => by cases hA))
      obtain rfl : k = xs.length := by omega
      go_wp2_with (fail)
      go_quiet (fail)
      go_wp2_with (fail)
      refine wp_named ?_
      intro WA hWA
      have p0 : WA.cell? ⟨w.heap.size, 0, none⟩ = some (.int .i64 d) := by rw [hWA]; exact n0
      have p1 : WA.cell? ⟨w.heap.size, 1, none⟩ = some (.slice (none) xs.length cap) := by rw [hWA]; exact n1
      have p2 : WA.cell? ⟨w.heap.size + 1, 0, none⟩ = some (.int .i64 f) := by rw [hWA]; exact n2
      have p3 : WA.cell? ⟨w.heap.size + 1, 1, none⟩ = some (.int .i64 t) := by rw [hWA]; exact n3
      have p4 : WA.cell? ⟨w.heap.size + 2, 0, none⟩ = some (.int .i64 0) := by rw [hWA]; exact n4
      have p5 : WA.cell? ⟨w.heap.size + 2, 1, none⟩ = some (.slice none 0 0) := by rw [hWA]; exact n5
      have pf : ∀ o, WA.frozen? ⟨w.heap.size + 2, o, none⟩ = false := by rw [hWA]; exact nf
      have hzA : wr.heap.size ≤ WA.heap.size := by rw [hWA]; exact Nat.le_refl _
      have hbA : Below w.heap.size w WA := by rw [hWA]; first | exact Below.drew hbw'.out | exact below_dn hbw'.out | exact hbw'.out
      have HBA := hid hbA
      have HXA := hid (Rds.below hx hbA)
      clear hWA n0 n1 n2 n3 n4 n5 nf hbr hbw hbw' hbW hbA
      have HKEEP : Hid (∀ w', Below WA.heap.size WA w' → w'.cell? ⟨w.heap.size, 0, none⟩ = some (.int .i64 d) ∧ w'.cell? ⟨w.heap.size, 1, none⟩ = some (.slice (none) xs.length cap) ∧ w'.cell? ⟨w.heap.size + 1, 0, none⟩ = some (.int .i64 f) ∧ w'.cell? ⟨w.heap.size + 1, 1, none⟩ = some (.int .i64 t)) := fun w' hb => ⟨(hb.cell (p := ⟨w.heap.size, 0, none⟩) (by show w.heap.size < _; omega)).trans p0, (hb.cell (p := ⟨w.heap.size, 1, none⟩) (by show w.heap.size < _; omega)).trans p1, (hb.cell (p := ⟨w.heap.size + 1, 0, none⟩) (by show w.heap.size + 1 < _; omega)).trans p2, (hb.cell (p := ⟨w.heap.size + 1, 1, none⟩) (by show w.heap.size + 1 < _; omega)).trans p3⟩
      have HKEP2 : Hid (∀ w', Below WA.heap.size WA w' → w'.cell? ⟨w.heap.size + 2, 0, none⟩ = some (.int .i64 0) ∧ w'.cell? ⟨w.heap.size + 2, 1, none⟩ = some (.slice none 0 0) ∧ ∀ o, w'.frozen? ⟨w.heap.size + 2, o, none⟩ = false) := fun w' hb => ⟨(hb.cell (p := ⟨w.heap.size + 2, 0, none⟩) (by show w.heap.size + 2 < _; omega)).trans p4, (hb.cell (p := ⟨w.heap.size + 2, 1, none⟩) (by show w.heap.size + 2 < _; omega)).trans p5, fun o => (hb.frozen (p := ⟨w.heap.size + 2, o, none⟩) (by show w.heap.size + 2 < _; omega)).trans (pf o)⟩
      clear p0 p1 p2 p3 p4 p5 pf
      refine wp_region_o (n := 18) bkI [2, 7, 9, 10, 15, 16, 17] [2, 7, 10, 15] (FACs (none : Option Addr) w.heap.size d (none) xs cap xs.length f t WA.heap.size) rfl (by kernel_rfl) (by kernel_rfl) (by intro j hj; simp at hj ⊢; omega) (fun _ _ d _ _ h => by cases d <;> exact h) ?_ ?_ ?_ ?_
      · intro iq v w1 w2 row hF hg hb hl
        match iq with
        | 0 => exact hF
        | 1 => exact hF
        | 2 => exact SlO.keep hF hg (hb (by decide))
        | 3 => exact hF
        | 4 => exact hF
        | 5 => exact hF
        | 6 => exact hF
        | 7 => exact SlO.keep hF hg (hb (by decide))
        | 8 => exact hF
        | 9 => exact BxO.keep hF hg (hb (by decide))
        | 10 => exact SlO.keep hF hg (hb (by decide))
        | 11 => exact hF
        | 12 => exact hF
        | 13 => exact hF
        | 14 => exact hF
        | 15 => exact SlO.keep hF hg (hb (by decide))
        | 16 => exact AgO.keep hF hg (hb (by decide))
        | 17 => exact ObO.keep hF hg (hb (by decide))
        | m + 18 => exact (show True from trivial)
      · intro iq hi v w1 hF
        have hcase : iq = 2 ∨ iq = 7 ∨ iq = 9 ∨ iq = 10 ∨ iq = 15 ∨ iq = 16 ∨ iq = 17 := by simpa using hi
        rcases hcase with rfl | rfl | rfl | rfl | rfl | rfl | rfl
        · exact SlO.at_ hF
        · exact SlO.at_ hF
        · exact BxO.at_ hF
        · exact SlO.at_ hF
        · exact SlO.at_ hF
        · exact AgO.at_ hF
        · exact ObO.at_ hF
      · intro iq o hi ho vals w1 hb1 hf hd
        match iq, hi with
        | 0, _ =>
          injection ho with ho
          subst ho
          clear hf hd
          have hz1 := hb1.size
          simp only [fillA, List.take, List.drop, put_none, Act.put, List.setIfInBounds_toArray, List.set_cons_zero, List.set_cons_succ, Nat.reduceAdd]
          go_wp2_with (fail)
          exact ⟨rfl, rfl, none, .inl rfl, World.grownBy.refl _ _, (by first | rfl | (simp [FACs]; done) | (simp [FACs, *]; done) | (simp [FACs, gotV]; done) | (simp [FACs, gotV, *]; done)), fun h => absurd h (by decide)⟩
        | 1, _ =>
          injection ho with ho
          subst ho
          have e0 : vals 0 = .pointer (some ⟨w.heap.size, 0, none⟩) := hf 0 (by decide) (by kernel_rfl)
          clear hf hd
          have hz1 := hb1.size
          simp only [fillA, List.take, List.drop, put_none, Act.put, List.setIfInBounds_toArray, List.set_cons_zero, List.set_cons_succ, Nat.reduceAdd, e0]
          have hK := HKEEP.out w1 hb1
          obtain ⟨k0, k1, k2, k3⟩ := hK
          go_wp2_with (fail)
          exact ⟨rfl, rfl, none, .inl rfl, World.grownBy.refl _ _, (by first | rfl | (simp [FACs]; done) | (simp [FACs, *]; done) | (simp [FACs, gotV]; done) | (simp [FACs, gotV, *]; done)), fun h => absurd h (by decide)⟩
        | 2, _ =>
          injection ho with ho
          subst ho
          clear hf hd
          have hz1 := hb1.size
          simp only [fillA, List.take, List.drop, put_none, Act.put, List.setIfInBounds_toArray, List.set_cons_zero, List.set_cons_succ, Nat.reduceAdd]
          go_wp2_with (fail)
          exact ⟨rfl, rfl, none, .inl rfl, World.grownBy_alloc _ _ _, ⟨_, _, rfl, FreshA.newh rfl hz1⟩, fun _ => .inr (.inr ⟨_, rfl, Nat.le_refl _⟩)⟩
        | 3, _ =>
          injection ho with ho
          subst ho
          clear hf hd
          have hz1 := hb1.size
          simp only [fillA, List.take, List.drop, put_none, Act.put, List.setIfInBounds_toArray, List.set_cons_zero, List.set_cons_succ, Nat.reduceAdd]
          go_wp2_with (fail)
          exact ⟨rfl, rfl, none, .inl rfl, World.grownBy.refl _ _, (by first | rfl | (simp [FACs]; done) | (simp [FACs, *]; done) | (simp [FACs, gotV]; done) | (simp [FACs, gotV, *]; done)), fun h => absurd h (by decide)⟩
        | 4, _ =>
          injection ho with ho
          subst ho
          have e3 : vals 3 = .pointer (some ⟨w.heap.size, 1, none⟩) := hf 3 (by decide) (by kernel_rfl)
          clear hf hd
          have hz1 := hb1.size
          simp only [fillA, List.take, List.drop, put_none, Act.put, List.setIfInBounds_toArray, List.set_cons_zero, List.set_cons_succ, Nat.reduceAdd, e3]
          have hK := HKEEP.out w1 hb1
          obtain ⟨k0, k1, k2, k3⟩ := hK
          go_wp2_with (fail)
          exact ⟨rfl, rfl, none, .inl rfl, World.grownBy.refl _ _, (by first | rfl | (simp [FACs]; done) | (simp [FACs, *]; done) | (simp [FACs, gotV]; done) | (simp [FACs, gotV, *]; done)), fun h => absurd h (by decide)⟩
        | 5, _ =>
          injection ho with ho
          subst ho
          clear hf hd
          have hz1 := hb1.size
          simp only [fillA, List.take, List.drop, put_none, Act.put, List.setIfInBounds_toArray, List.set_cons_zero, List.set_cons_succ, Nat.reduceAdd]
          go_wp2_with (fail)
          exact ⟨rfl, rfl, none, .inl rfl, World.grownBy.refl _ _, (by first | rfl | (simp [FACs]; done) | (simp [FACs, *]; done) | (simp [FACs, gotV]; done) | (simp [FACs, gotV, *]; done)), fun h => absurd h (by decide)⟩
        | 6, _ =>
          injection ho with ho
          subst ho
          have e4 : vals 4 = .slice (none) xs.length cap := hf 4 (by decide) (by kernel_rfl)
          have e5 : vals 5 = .int .i64 ((xs.length : Nat) : Int) := hf 5 (by decide) (by kernel_rfl)
          clear hf hd
          have hz1 := hb1.size
          simp only [fillA, List.take, List.drop, put_none, Act.put, List.setIfInBounds_toArray, List.set_cons_zero, List.set_cons_succ, Nat.reduceAdd, e4, e5]
          go_wp2_with (fail)
          exact ⟨rfl, rfl, none, .inl rfl, World.grownBy.refl _ _, (by first | rfl | (simp [FACs]; done) | (simp [FACs, *]; done) | (simp [FACs, gotV]; done) | (simp [FACs, gotV, *]; done)), fun h => absurd h (by decide)⟩
        | 7, _ =>
          injection ho with ho
          subst ho
          obtain ⟨A2, c2, e2, hF2⟩ := hf 2 (by decide) (by kernel_rfl)
          have e6 : vals 6 = .slice (none) xs.length cap := hf 6 (by decide) (by kernel_rfl)
          clear hf hd
          have hz1 := hb1.size
          simp only [fillA, List.take, List.drop, put_none, Act.put, List.setIfInBounds_toArray, List.set_cons_zero, List.set_cons_succ, Nat.reduceAdd, e2, e6]
          refine wpList_pushesR (xs := ([] : List (Int × Int))) rfl (.tmp 32) (.tmp 36) 27 rfl 50 i0 _ 16 Try.underlying27 hI0 hI1 hI2 hI3 rfl (by decide) (fun _ => rfl) one_Iv 0 rfl rfl hF2 (xs.take xs.length) xs.length (by first | (simp; done) | (simp; omega)) (none) _ rfl (Rds.below (Rds.takeN HXA.out xs.length) hb1) (by unfold maxLen; omega) (by omega) hz1 ?_
          intro A' cp' w' hF' hg' hat'
          exact RQO_of (.slice A' (0 + xs.length) cp') rfl (by first | rfl | (simp [gotV]; done) | (simp [gotV, *]; done)) ⟨blkO A2, .inr ⟨2, by decide, by decide, by kernel_rfl, by rw [e2, bkI_sl]⟩, hg', ⟨A', cp', by first | rfl | (simp; done) | (congr 1; omega), by simpa using hF'⟩, fun _ => by rw [← bkI_sl (m := 0) (c := 0) (A := A2)]; exact bkI_hat hat'⟩
        | 8, _ =>
          injection ho with ho
          subst ho
          clear hf hd
          have hz1 := hb1.size
          simp only [fillA, List.take, List.drop, put_none, Act.put, List.setIfInBounds_toArray, List.set_cons_zero, List.set_cons_succ, Nat.reduceAdd]
          have hK := HKEEP.out w1 hb1
          obtain ⟨k0, k1, k2, k3⟩ := hK
          go_wp2_with (fail)
          exact ⟨rfl, rfl, none, .inl rfl, World.grownBy.refl _ _, (by first | rfl | (simp [FACs]; done) | (simp [FACs, *]; done) | (simp [FACs, gotV]; done) | (simp [FACs, gotV, *]; done)), fun h => absurd h (by decide)⟩
        | 9, _ =>
          injection ho with ho
          subst ho
          have e8 : vals 8 = .agg #[.int .i64 f, .int .i64 t] := hf 8 (by decide) (by kernel_rfl)
          clear hf hd
          have hz1 := hb1.size
          simp only [fillA, List.take, List.drop, put_none, Act.put, List.setIfInBounds_toArray, List.set_cons_zero, List.set_cons_succ, Nat.reduceAdd, e8]
          go_wp2_with (fail)
          exact ⟨rfl, rfl, none, .inl rfl, World.grownBy_alloc _ _ _, ⟨_, rfl, hz1, heap_alloc_new _ _⟩, fun _ => .inr (.inr ⟨_, rfl, Nat.le_refl _⟩)⟩
        | 10, _ =>
          injection ho with ho
          subst ho
          obtain ⟨A7, c7, e7, hF7⟩ := hf 7 (by decide) (by kernel_rfl)
          obtain ⟨g9, e9, hB9, hh9⟩ := hf 9 (by decide) (by kernel_rfl)
          have hd7_9 := hd 7 9 (by decide) (by decide) (by decide) (by kernel_rfl) (by kernel_rfl) (by decide) (by decide)
          simp only [e7, e9, bkI_sl, bkI_ag] at hd7_9
          clear hf hd
          have hz1 := hb1.size
          simp only [fillA, List.take, List.drop, put_none, Act.put, List.setIfInBounds_toArray, List.set_cons_zero, List.set_cons_succ, Nat.reduceAdd, e7, e9]
          refine wpList_pushesR (xs := xs.take xs.length) rfl (.tmp 37) (.tmp 39) 27 rfl 50 i0 _ 16 Try.underlying27 hI0 hI1 hI2 hI3 rfl (by decide) (fun _ => rfl) one_Iv xs.length (by first | (simp; done) | (simp; omega)) rfl hF7 [(f, t)] 1 rfl (some ⟨g9, 0, none⟩) _ rfl (Rds.ofBox hh9) (by unfold maxLen; omega) (by omega) hz1 ?_
          intro A' cp' w' hF' hg' hat'
          exact RQO_of (.slice A' (xs.length + 1) cp') rfl (by first | rfl | (simp [gotV]; done) | (simp [gotV, *]; done)) ⟨blkO A7, .inr ⟨7, by decide, by decide, by kernel_rfl, by rw [e7, bkI_sl]⟩, hg', ⟨A', cp', by first | rfl | (simp; done) | (congr 1; omega), by exact hF'⟩, fun _ => by rw [← bkI_sl (m := 0) (c := 0) (A := A7)]; exact bkI_hat hat'⟩
        | 11, _ =>
          injection ho with ho
          subst ho
          clear hf hd
          have hz1 := hb1.size
          simp only [fillA, List.take, List.drop, put_none, Act.put, List.setIfInBounds_toArray, List.set_cons_zero, List.set_cons_succ, Nat.reduceAdd]
          go_wp2_with (fail)
          exact ⟨rfl, rfl, none, .inl rfl, World.grownBy.refl _ _, (by first | rfl | (simp [FACs]; done) | (simp [FACs, *]; done) | (simp [FACs, gotV]; done) | (simp [FACs, gotV, *]; done)), fun h => absurd h (by decide)⟩
        | 12, _ =>
          injection ho with ho
          subst ho
          have e11 : vals 11 = .pointer (some ⟨w.heap.size, 1, none⟩) := hf 11 (by decide) (by kernel_rfl)
          clear hf hd
          have hz1 := hb1.size
          simp only [fillA, List.take, List.drop, put_none, Act.put, List.setIfInBounds_toArray, List.set_cons_zero, List.set_cons_succ, Nat.reduceAdd, e11]
          have hK := HKEEP.out w1 hb1
          obtain ⟨k0, k1, k2, k3⟩ := hK
          go_wp2_with (fail)
          exact ⟨rfl, rfl, none, .inl rfl, World.grownBy.refl _ _, (by first | rfl | (simp [FACs]; done) | (simp [FACs, *]; done) | (simp [FACs, gotV]; done) | (simp [FACs, gotV, *]; done)), fun h => absurd h (by decide)⟩
        | 13, _ =>
          injection ho with ho
          subst ho
          clear hf hd
          have hz1 := hb1.size
          simp only [fillA, List.take, List.drop, put_none, Act.put, List.setIfInBounds_toArray, List.set_cons_zero, List.set_cons_succ, Nat.reduceAdd]
          go_wp2_with (fail)
          exact ⟨rfl, rfl, none, .inl rfl, World.grownBy.refl _ _, (by first | rfl | (simp [FACs]; done) | (simp [FACs, *]; done) | (simp [FACs, gotV]; done) | (simp [FACs, gotV, *]; done)), fun h => absurd h (by decide)⟩
        | 14, _ =>
          injection ho with ho
          subst ho
          have e12 : vals 12 = .slice (none) xs.length cap := hf 12 (by decide) (by kernel_rfl)
          have e13 : vals 13 = .int .i64 ((xs.length : Nat) : Int) := hf 13 (by decide) (by kernel_rfl)
          clear hf hd
          have hz1 := hb1.size
          simp only [fillA, List.take, List.drop, put_none, Act.put, List.setIfInBounds_toArray, List.set_cons_zero, List.set_cons_succ, Nat.reduceAdd, e12, e13]
          go_wp2_with (fail)
          all_goals refine ⟨rfl, rfl, none, .inl rfl, World.grownBy.refl _ _, ?_, fun h => absurd h (by decide)⟩
          all_goals exact ⟨_, (by first | rfl | (show Value.slice _ _ _ = Value.slice _ _ _; rw [Nat.sub_self])), fun h => by first | rfl | omega⟩
        | 15, _ =>
          injection ho with ho
          subst ho
          obtain ⟨A10, c10, e10, hF10⟩ := hf 10 (by decide) (by kernel_rfl)
          obtain ⟨A14, e14, hA14⟩ := hf 14 (by decide) (by kernel_rfl)
          clear hf hd
          have hz1 := hb1.size
          simp only [fillA, List.take, List.drop, put_none, Act.put, List.setIfInBounds_toArray, List.set_cons_zero, List.set_cons_succ, Nat.reduceAdd, e10, e14]
          refine wpList_pushesR (xs := xs.take xs.length ++ [(f, t)]) rfl (.tmp 40) (.tmp 44) 27 rfl 50 i0 _ 16 Try.underlying27 hI0 hI1 hI2 hI3 rfl (by decide) (fun _ => rfl) one_Iv (xs.length + 1) (by first | (simp; done) | (simp; omega)) rfl hF10 (xs.drop xs.length) (xs.length - xs.length) (by simp) A14 _ rfl (Rds.below (Rds.dropW HXA.out xs.length (by intro b o e; cases e <;> rfl) hA14) hb1) (by unfold maxLen; omega) (by omega) hz1 ?_
          intro A' cp' w' hF' hg' hat'
          exact RQO_of (.slice A' ((xs.length + 1) + (xs.length - xs.length)) cp') rfl (by first | rfl | (simp [gotV]; done) | (simp [gotV, *]; done)) ⟨blkO A10, .inr ⟨10, by decide, by decide, by kernel_rfl, by rw [e10, bkI_sl]⟩, hg', ⟨A', cp', by first | rfl | (simp; done) | (congr 1; omega), by rw [HINS.out]; simpa using hF'⟩, fun _ => by rw [← bkI_sl (m := 0) (c := 0) (A := A10)]; exact bkI_hat hat'⟩
        | 16, _ =>
          injection ho with ho
          subst ho
          have e1 : vals 1 = .int .i64 d := hf 1 (by decide) (by kernel_rfl)
          obtain ⟨A15, c15, e15, hF15⟩ := hf 15 (by decide) (by kernel_rfl)
          clear hf hd
          have hz1 := hb1.size
          simp only [fillA, List.take, List.drop, put_none, Act.put, List.setIfInBounds_toArray, List.set_cons_zero, List.set_cons_succ, Nat.reduceAdd, e1, e15]
          go_wp2_with (fail)
          exact RQO_of (.agg #[.int .i64 d, .slice A15 (xs.length + 1) c15]) rfl (by first | rfl | (simp [gotV]; done) | (simp [gotV, *]; done)) ⟨blkO A15, .inr ⟨15, by decide, by decide, by kernel_rfl, by rw [e15, bkI_sl]⟩, World.grownBy.refl _ _, ⟨A15, c15, rfl, hF15⟩, fun _ => .inr (.inl bkI_ag)⟩
        | 17, _ =>
          injection ho with ho
          subst ho
          clear hf hd
          have hz1 := hb1.size
          simp only [fillA, List.take, List.drop, put_none, Act.put, List.setIfInBounds_toArray, List.set_cons_zero, List.set_cons_succ, Nat.reduceAdd]
          go_wp2_with (fail)
          exact ⟨rfl, rfl, none, .inl rfl, World.grownBy_alloc _ _ _, ⟨_, rfl, hz1, heap_alloc_new _ _⟩, fun _ => .inr (.inr ⟨_, rfl, Nat.le_refl _⟩)⟩
        | m + 18, h => exact absurd h (by omega)
      · intro vals W5 hb5 hf hd
        have e0 : vals 0 = .pointer (some ⟨w.heap.size, 0, none⟩) := hf 0 (by decide) (by decide)
        have e1 : vals 1 = .int .i64 d := hf 1 (by decide) (by decide)
        have e3 : vals 3 = .pointer (some ⟨w.heap.size, 1, none⟩) := hf 3 (by decide) (by decide)
        have e4 : vals 4 = .slice (none) xs.length cap := hf 4 (by decide) (by decide)
        have e5 : vals 5 = .int .i64 ((xs.length : Nat) : Int) := hf 5 (by decide) (by decide)
        have e6 : vals 6 = .slice (none) xs.length cap := hf 6 (by decide) (by decide)
        have e8 : vals 8 = .agg #[.int .i64 f, .int .i64 t] := hf 8 (by decide) (by decide)
        obtain ⟨g9, e9, hB9, hh9⟩ := hf 9 (by decide) (by decide)
        have e11 : vals 11 = .pointer (some ⟨w.heap.size, 1, none⟩) := hf 11 (by decide) (by decide)
        have e12 : vals 12 = .slice (none) xs.length cap := hf 12 (by decide) (by decide)
        have e13 : vals 13 = .int .i64 ((xs.length : Nat) : Int) := hf 13 (by decide) (by decide)
        obtain ⟨A14, e14, hA14⟩ := hf 14 (by decide) (by decide)
        obtain ⟨A16, c16, e16, hF16⟩ := hf 16 (by decide) (by decide)
        obtain ⟨g17, e17, hB17, hh17⟩ := hf 17 (by decide) (by decide)
        have hd9_16 := hd 9 16 (by decide) (by decide) (by decide) (by decide) (by decide) (by decide) (by decide)
        have hd9_17 := hd 9 17 (by decide) (by decide) (by decide) (by decide) (by decide) (by decide) (by decide)
        have hd16_17 := hd 16 17 (by decide) (by decide) (by decide) (by decide) (by decide) (by decide) (by decide)
        simp only [e9, e16, e17, bkI_sl, bkI_ag] at hd9_16 hd9_17 hd16_17
        clear hf hd
        simp only [fillA, List.take, List.drop, put_none, Act.put, List.setIfInBounds_toArray, List.set_cons_zero, List.set_cons_succ, Nat.reduceAdd, e0, e1, e3, e4, e5, e6, e8, e9, e11, e12, e13, e14, e16, e17]
        have ht0 := Fresh.cell hh17 0
        have ht1 := Fresh.cell hh17 1
        have htf := Fresh.froz hh17
        simp at ht0 ht1
        have hgl := Fresh.lt hh17
        have hzW := HBA.out.size
        have hne : NeB g17 A16 := by
          intro a ha e
          subst ha
          rcases hd16_17 with h | h
          · cases h
          · exact h (by rw [← e]; rfl)
        have hbw5 : Below w.heap.size w W5 := Below.trans HBA.out (Below.mono hb5 (by omega))
        have HF6 := hid (hF16.mono (B' := w.heap.size + 3) (by omega))
        have HBW5 := hid hbw5
        have HK2 := hid (HKEP2.out W5 hb5)
        have hz5 := hb5.size
        have HNE := hid hne
        clear hF16 hb5 hbw5 HKEEP HKEP2 hh17 hd16_17 hne
        go_wp2_with (fail)
        refine calls_named ?_
        intro V hV
        have r0 : V.cell? ⟨g17, 0, none⟩ = some (.int .i64 d) := by rw [hV]; simp [cellSet, ht0, ht1]
        have r1 : V.cell? ⟨g17, 1, none⟩ = some (.slice A16 (xs.length + 1) c16) := by rw [hV]; simp [cellSet, ht0, ht1]
        have hTV : g17 < V.heap.size := by rw [hV]; simpa [World.setCell] using hgl
        have hFV : FreshA cIv 2 50 (w.heap.size + 3) V A16 c16 (insI xs (f, t)) := by rw [hV]; exact (HF6.out.set_neb (p := ⟨g17, 0, none⟩) HNE.out _).set_neb (p := ⟨g17, 1, none⟩) HNE.out _
        have hKV : Below (w.heap.size + 3) W5 V := by rw [hV]; exact Below.setCell (Below.setCell (Below.refl _ _) (by show w.heap.size + 3 ≤ g17; omega) _) (by show w.heap.size + 3 ≤ g17; omega) _
        obtain ⟨q4, q5, qf⟩ := HK2.out
        have s4 : V.cell? ⟨w.heap.size + 2, 0, none⟩ = some (.int .i64 0) := (hKV.cell (p := ⟨w.heap.size + 2, 0, none⟩) (by show w.heap.size + 2 < _; omega)).trans q4
        have s5 : V.cell? ⟨w.heap.size + 2, 1, none⟩ = some (.slice none 0 0) := (hKV.cell (p := ⟨w.heap.size + 2, 1, none⟩) (by show w.heap.size + 2 < _; omega)).trans q5
        have sf : ∀ o, V.frozen? ⟨w.heap.size + 2, o, none⟩ = false := fun o => (hKV.frozen (p := ⟨w.heap.size + 2, o, none⟩) (by show w.heap.size + 2 < _; omega)).trans (qf o)
        have hbV : Below w.heap.size w V := Below.trans HBW5.out (Below.mono hKV (by omega))
        have hVs := hKV.size
        have HBW := hid hbV
        have HFV := hid hFV
        clear q4 q5 qf HK2 HF6 HBW5 hKV hbV hFV hV ht0 ht1 htf HNE
        have hval := c_spec_l15Good d A16 (insI xs (f, t)) c16 V HFV.out.rds (by rw [HINL.out]; omega)
        rw [HINL.out] at hval
        refine hval.mono ?_
        rintro e W7 ⟨rfl, hb7⟩
        have hc7 := cellOf hb7; have hf7 := frozOf hb7; have hz7 := sizeOf hb7; (try simp at hz7)
        cases hg2 : brB d (insI xs (f, t))
        · have hV2 : addV d xs (f, t) = ((0, []), false) := by simp [addV, hg2]
          have HV2 := hid hV2
          clear hV2
          simp only [hg2]
          go_wp2_with (fail)
          refine bodyPost_ret (v := .tuple #[.agg #[.int .i64 0, .slice none 0 0], .bool false]) ?_ rfl ?_
          · simp [results, Try.results33, go_sem, ↓IntWalk.iteOmega, *]
          · simp only [HV2.out]
            refine ⟨none, 0, rfl, .inl ⟨rfl, rfl, rfl⟩, ?_⟩
            have hb8 : Below w.heap.size w W7 := Below.trans HBW.out (Below.mono hb7 (by omega))
            repeat' (first | with_reducible exact hb8 | with_reducible refine Below.setCell ?_ ?_ _ | (dsimp only; omega))
        have hV2 : addV d xs (f, t) = ((d, insI xs (f, t)), true) := by simp only [addV, hg, hg2, and_self, if_true]
        have HV2 := hid hV2
        clear hV2
        simp only [hg2]
        have HF7 := hid (HFV.out.below hb7)
        have hb8 : Below w.heap.size w W7 := Below.trans HBW.out (Below.mono hb7 (by omega))
        have HB8 := hid hb8
        clear hb8 HBW HFV
        go_wp2_with (fail)
        refine bodyPost_ret (v := .tuple #[.agg #[.int .i64 d, .slice A16 (xs.length + 1) c16], .bool true]) ?_ rfl ?_
        · simp [results, Try.results33, go_sem, ↓IntWalk.iteOmega, *]
        · simp only [HV2.out, HINL.out]
          refine ⟨A16, c16, rfl, ?_, ?_⟩
          · refine FreshA.mono (B := w.heap.size + 3) ?_ (by omega)
            repeat' (first | with_reducible exact HF7.out | with_reducible refine FreshA.set_low ?_ ?_ _ | (dsimp only; omega))
          · repeat' (first | with_reducible exact HB8.out | with_reducible refine Below.setCell ?_ ?_ _ | (dsimp only; omega))

  · cases hg : brB d xs
    · have hV : addV d xs (f, t) = ((0, []), false) := by simp [addV, hg]
      rw [hV]
      simp only
      clear hV
      go_enter Try.func33, Try.ntmps33
      go_wp2_with (fail)
      refine (c_spec_l15Good _ _ xs _ _ (by first | exact hx | exact Rds.below hx (by (repeat' (first | exact Below.refl _ _ | assumption | refine Below.setCell ?_ ?_ _ | refine Below.drew ?_ | refine Below.alloc ?_ ?_ _ | refine Below.trans ?_ (Below.mono (by assumption) ?_) | (simp; done) | (simp; omega) | omega)))) (by omega)).mono ?_
      rintro e W1 ⟨rfl, hb1⟩
      have hc1 := cellOf hb1; have hf1 := frozOf hb1; have hz1 := sizeOf hb1; (try simp at hz1)
      simp only [hg]
      go_wp2_with (fail)
      refine bodyPost_ret (v := .tuple #[.agg #[.int .i64 0, .slice none 0 0], .bool false]) ?_ rfl ⟨none, 0, rfl, .inl ⟨rfl, rfl, rfl⟩, by (repeat' (first | exact Below.refl _ _ | assumption | refine Below.setCell ?_ ?_ _ | refine Below.drew ?_ | refine Below.alloc ?_ ?_ _ | refine Below.trans ?_ (Below.mono (by assumption) ?_) | (simp; done) | (simp; omega) | omega))⟩
      simp [results, Try.results33, go_sem, ↓IntWalk.iteOmega, *]
    have hlen : xs.length ≤ 6 := brB_len hg
    go_enter Try.func33, Try.ntmps33
    go_wp2_with (fail)
    refine (c_spec_l15Good _ _ xs _ _ (by first | exact hx | exact Rds.below hx (by (repeat' (first | exact Below.refl _ _ | assumption | refine Below.setCell ?_ ?_ _ | refine Below.drew ?_ | refine Below.alloc ?_ ?_ _ | refine Below.trans ?_ (Below.mono (by assumption) ?_) | (simp; done) | (simp; omega) | omega)))) (by omega)).mono ?_
    rintro e W1 ⟨rfl, hb1⟩
    have hc1 := cellOf hb1; have hf1 := frozOf hb1; have hz1 := sizeOf hb1; (try simp at hz1)
    simp only [hg]
    go_wp2_with (fail)
    have m0 : W1.cell? ⟨w.heap.size, 0, none⟩ = some (.int .i64 d) := by first | (simp [go_sem, ↓IntWalk.iteOmega, *]; done) | (simp [go_sem, ↓IntWalk.iteOmega, *]; intros; omega)
    have m1 : W1.cell? ⟨w.heap.size, 1, none⟩ = some (.slice (some ⟨bx, ox, sp⟩) xs.length cap) := by first | (simp [go_sem, ↓IntWalk.iteOmega, *]; done) | (simp [go_sem, ↓IntWalk.iteOmega, *]; intros; omega)
    have m2 : W1.cell? ⟨w.heap.size + 1, 0, none⟩ = some (.int .i64 f) := by first | (simp [go_sem, ↓IntWalk.iteOmega, *]; done) | (simp [go_sem, ↓IntWalk.iteOmega, *]; intros; omega)
    have m3 : W1.cell? ⟨w.heap.size + 1, 1, none⟩ = some (.int .i64 t) := by first | (simp [go_sem, ↓IntWalk.iteOmega, *]; done) | (simp [go_sem, ↓IntWalk.iteOmega, *]; intros; omega)
    have m4 : W1.cell? ⟨w.heap.size + 2, 0, none⟩ = some (.int .i64 0) := by first | (simp [go_sem, ↓IntWalk.iteOmega, *]; done) | (simp [go_sem, ↓IntWalk.iteOmega, *]; intros; omega)
    have m5 : W1.cell? ⟨w.heap.size + 2, 1, none⟩ = some (.slice none 0 0) := by first | (simp [go_sem, ↓IntWalk.iteOmega, *]; done) | (simp [go_sem, ↓IntWalk.iteOmega, *]; intros; omega)
    have mf : ∀ o, W1.frozen? ⟨w.heap.size + 2, o, none⟩ = false := fun o => by first | (simp [go_sem, ↓IntWalk.iteOmega, *]; done) | (simp [go_sem, ↓IntWalk.iteOmega, *]; intros; omega)
    have hbW : Below w.heap.size w W1 := by (repeat' (first | exact Below.refl _ _ | assumption | refine Below.setCell ?_ ?_ _ | refine Below.drew ?_ | refine Below.alloc ?_ ?_ _ | refine Below.trans ?_ (Below.mono (by assumption) ?_) | (simp; done) | (simp; omega) | omega))
    clear hc1 hf1 hb1
    go_loopw [6] (fun i wr => ∃ k : Nat, k ≤ xs.length ∧ i = .int .i64 k ∧ (∀ q (hq : q < xs.length), q < k → xs[q].1 < f) ∧ Below W1.heap.size W1 wr) (fun i _ => xs.length - (intOf i).toNat)
    case atStart => exact ⟨0, Nat.zero_le _, rfl, fun q hq hk => absurd hk (Nat.not_lt_zero q), Below.refl _ _⟩
    case round =>
      obtain ⟨k, hk, rfl, hl, hbr⟩ := hrel
      have HL := hid hl
      clear hl
      have hzr := hbr.size
      have n0 := (hbr.cell (p := ⟨w.heap.size, 0, none⟩) (by show w.heap.size < _; omega)).trans m0
      have n1 := (hbr.cell (p := ⟨w.heap.size, 1, none⟩) (by show w.heap.size < _; omega)).trans m1
      have n2 := (hbr.cell (p := ⟨w.heap.size + 1, 0, none⟩) (by show w.heap.size + 1 < _; omega)).trans m2
      have n3 := (hbr.cell (p := ⟨w.heap.size + 1, 1, none⟩) (by show w.heap.size + 1 < _; omega)).trans m3
      have n4 := (hbr.cell (p := ⟨w.heap.size + 2, 0, none⟩) (by show w.heap.size + 2 < _; omega)).trans m4
      have n5 := (hbr.cell (p := ⟨w.heap.size + 2, 1, none⟩) (by show w.heap.size + 2 < _; omega)).trans m5
      have nf : ∀ o, wr.frozen? ⟨w.heap.size + 2, o, none⟩ = false := fun o => (hbr.frozen (p := ⟨w.heap.size + 2, o, none⟩) (by show w.heap.size + 2 < _; omega)).trans (mf o)
      have hbw : Below w.heap.size w wr := Below.trans hbW (Below.mono hbr (by omega))
      have hbw' := hid hbw
      clear m0 m1 m2 m3 m4 m5 mf
      by_cases hgo : ∃ h : k < xs.length, xs[k].1 < f
      · obtain ⟨hlt, hlf⟩ := hgo
        obtain ⟨b', o', hA, hbx, hcx⟩ := hx k xs[k] (List.getElem?_eq_getElem hlt)
        cases hA
        have hx0 := (hbw.cell (p := ⟨bx, _, none⟩) hbx).trans (hcx 0 _ rfl)
        clear hcx
        simp only [Nat.add_zero] at hx0
        have HLF := hid hlf
        generalize xs[k].1 = p at hx0 hlf
        go_wp2_with (fail)
        go_region_held3 (fun w' => w'.cell? ⟨w.heap.size, 1, none⟩ = some (.slice (some ⟨bx, ox, none⟩) xs.length cap) ∧ w'.cell? ⟨w.heap.size + 1, 0, none⟩ = some (.int .i64 f) ∧ w'.cell? ⟨bx, ox + k * 2, none⟩ = some (.int .i64 p)) (first | assumption | exact ⟨n1, n2, hx0⟩) (fail)
        go_wp2_with (fail)
        go_roundw
        case rel =>
          refine ⟨k + 1, by omega, by go_num, ?_, by (repeat' (first | exact Below.refl _ _ | assumption | refine Below.setCell ?_ ?_ _ | refine Below.drew ?_ | refine Below.alloc ?_ ?_ _ | refine Below.trans ?_ (Below.mono (by assumption) ?_) | (simp; done) | (simp; omega) | omega))⟩
          intro q hq hk1
          by_cases hqk : q < k
          · exact HL.out q hq hqk
          · have : q = k := by omega
            subst this
            exact HLF.out
        case measure => simp [intOf]; omega
      have hpk : posI f xs = k := posI_at hk HL.out (fun h h2 => hgo ⟨h, h2⟩)
      have hins : insI xs (f, t) = xs.take k ++ (f, t) :: xs.drop k := by simp only [insI, hpk]
      have HINS := hid hins
      have HINL := hid (insI_len xs (f, t))
      clear hins hpk HL
      have hgoK := hid hgo
      clear hgo
      by_cases hlt : k < xs.length
      · have hnf : ¬ xs[k].1 < f := fun h => hgoK.out ⟨hlt, h⟩
        obtain ⟨b', o', hA, hbx, hcx⟩ := hx k xs[k] (List.getElem?_eq_getElem hlt)
        cases hA
        have hx0 := (hbw.cell (p := ⟨bx, _, none⟩) hbx).trans (hcx 0 _ rfl)
        clear hcx
        simp only [Nat.add_zero] at hx0
        generalize xs[k].1 = p at hx0 hnf
        go_wp2_with (fail)
        go_region_held3 (fun w' => w'.cell? ⟨w.heap.size, 1, none⟩ = some (.slice (some ⟨bx, ox, none⟩) xs.length cap) ∧ w'.cell? ⟨w.heap.size + 1, 0, none⟩ = some (.int .i64 f) ∧ w'.cell? ⟨bx, ox + k * 2, none⟩ = some (.int .i64 p)) (first | assumption | exact ⟨n1, n2, hx0⟩) (fail)
        go_wp2_with (fail)
        clear hx0 hnf hbx
        refine wp_named ?_
        intro WA hWA
        have p0 : WA.cell? ⟨w.heap.size, 0, none⟩ = some (.int .i64 d) := by rw [hWA]; exact n0
        have p1 : WA.cell? ⟨w.heap.size, 1, none⟩ = some (.slice (some ⟨bx, ox, none⟩) xs.length cap) := by rw [hWA]; exact n1
        have p2 : WA.cell? ⟨w.heap.size + 1, 0, none⟩ = some (.int .i64 f) := by rw [hWA]; exact n2
        have p3 : WA.cell? ⟨w.heap.size + 1, 1, none⟩ = some (.int .i64 t) := by rw [hWA]; exact n3
        have p4 : WA.cell? ⟨w.heap.size + 2, 0, none⟩ = some (.int .i64 0) := by rw [hWA]; exact n4
        have p5 : WA.cell? ⟨w.heap.size + 2, 1, none⟩ = some (.slice none 0 0) := by rw [hWA]; exact n5
        have pf : ∀ o, WA.frozen? ⟨w.heap.size + 2, o, none⟩ = false := by rw [hWA]; exact nf
        have hzA : wr.heap.size ≤ WA.heap.size := by rw [hWA]; exact Nat.le_refl _
        have hbA : Below w.heap.size w WA := by rw [hWA]; first | exact Below.drew hbw'.out | exact below_dn hbw'.out | exact hbw'.out
        have HBA := hid hbA
        have HXA := hid (Rds.below hx hbA)
        clear hWA n0 n1 n2 n3 n4 n5 nf hbr hbw hbw' hbW hbA
        have HKEEP : Hid (∀ w', Below WA.heap.size WA w' → w'.cell? ⟨w.heap.size, 0, none⟩ = some (.int .i64 d) ∧ w'.cell? ⟨w.heap.size, 1, none⟩ = some (.slice (some ⟨bx, ox, none⟩) xs.length cap) ∧ w'.cell? ⟨w.heap.size + 1, 0, none⟩ = some (.int .i64 f) ∧ w'.cell? ⟨w.heap.size + 1, 1, none⟩ = some (.int .i64 t)) := fun w' hb => ⟨(hb.cell (p := ⟨w.heap.size, 0, none⟩) (by show w.heap.size < _; omega)).trans p0, (hb.cell (p := ⟨w.heap.size, 1, none⟩) (by show w.heap.size < _; omega)).trans p1, (hb.cell (p := ⟨w.heap.size + 1, 0, none⟩) (by show w.heap.size + 1 < _; omega)).trans p2, (hb.cell (p := ⟨w.heap.size + 1, 1, none⟩) (by show w.heap.size + 1 < _; omega)).trans p3⟩
        have HKEP2 : Hid (∀ w', Below WA.heap.size WA w' → w'.cell? ⟨w.heap.size + 2, 0, none⟩ = some (.int .i64 0) ∧ w'.cell? ⟨w.heap.size + 2, 1, none⟩ = some (.slice none 0 0) ∧ ∀ o, w'.frozen? ⟨w.heap.size + 2, o, none⟩ = false) := fun w' hb => ⟨(hb.cell (p := ⟨w.heap.size + 2, 0, none⟩) (by show w.heap.size + 2 < _; omega)).trans p4, (hb.cell (p := ⟨w.heap.size + 2, 1, none⟩) (by show w.heap.size + 2 < _; omega)).trans p5, fun o => (hb.frozen (p := ⟨w.heap.size + 2, o, none⟩) (by show w.heap.size + 2 < _; omega)).trans (pf o)⟩
        clear p0 p1 p2 p3 p4 p5 pf
        refine wp_region_o (n := 18) bkI [2, 7, 9, 10, 15, 16, 17] [2, 7, 10, 15] (FACs (some ⟨bx, ox + k * 2, none⟩) w.heap.size d (some ⟨bx, ox, none⟩) xs cap k f t WA.heap.size) rfl (by kernel_rfl) (by kernel_rfl) (by intro j hj; simp at hj ⊢; omega) (fun _ _ d _ _ h => by cases d <;> exact h) ?_ ?_ ?_ ?_
        · intro iq v w1 w2 row hF hg hb hl
          match iq with
          | 0 => exact hF
          | 1 => exact hF
          | 2 => exact SlO.keep hF hg (hb (by decide))
          | 3 => exact hF
          | 4 => exact hF
          | 5 => exact hF
          | 6 => exact hF
          | 7 => exact SlO.keep hF hg (hb (by decide))
          | 8 => exact hF
          | 9 => exact BxO.keep hF hg (hb (by decide))
          | 10 => exact SlO.keep hF hg (hb (by decide))
          | 11 => exact hF
          | 12 => exact hF
          | 13 => exact hF
          | 14 => exact hF
          | 15 => exact SlO.keep hF hg (hb (by decide))
          | 16 => exact AgO.keep hF hg (hb (by decide))
          | 17 => exact ObO.keep hF hg (hb (by decide))
          | m + 18 => exact (show True from trivial)
        · intro iq hi v w1 hF
          have hcase : iq = 2 ∨ iq = 7 ∨ iq = 9 ∨ iq = 10 ∨ iq = 15 ∨ iq = 16 ∨ iq = 17 := by simpa using hi
          rcases hcase with rfl | rfl | rfl | rfl | rfl | rfl | rfl
          · exact SlO.at_ hF
          · exact SlO.at_ hF
          · exact BxO.at_ hF
          · exact SlO.at_ hF
          · exact SlO.at_ hF
          · exact AgO.at_ hF
          · exact ObO.at_ hF
        · intro iq o hi ho vals w1 hb1 hf hd
          match iq, hi with
          | 0, _ =>
            injection ho with ho
            subst ho
            clear hf hd
            have hz1 := hb1.size
            simp only [fillA, List.take, List.drop, put_none, Act.put, List.setIfInBounds_toArray, List.set_cons_zero, List.set_cons_succ, Nat.reduceAdd]
            go_wp2_with (fail)
            exact ⟨rfl, rfl, none, .inl rfl, World.grownBy.refl _ _, (by first | rfl | (simp [FACs]; done) | (simp [FACs, *]; done) | (simp [FACs, gotV]; done) | (simp [FACs, gotV, *]; done)), fun h => absurd h (by decide)⟩
          | 1, _ =>
            injection ho with ho
            subst ho
            have e0 : vals 0 = .pointer (some ⟨w.heap.size, 0, none⟩) := hf 0 (by decide) (by kernel_rfl)
            clear hf hd
            have hz1 := hb1.size
            simp only [fillA, List.take, List.drop, put_none, Act.put, List.setIfInBounds_toArray, List.set_cons_zero, List.set_cons_succ, Nat.reduceAdd, e0]
            have hK := HKEEP.out w1 hb1
            obtain ⟨k0, k1, k2, k3⟩ := hK
            go_wp2_with (fail)
            exact ⟨rfl, rfl, none, .inl rfl, World.grownBy.refl _ _, (by first | rfl | (simp [FACs]; done) | (simp [FACs, *]; done) | (simp [FACs, gotV]; done) | (simp [FACs, gotV, *]; done)), fun h => absurd h (by decide)⟩
          | 2, _ =>
            injection ho with ho
            subst ho
            clear hf hd
            have hz1 := hb1.size
            simp only [fillA, List.take, List.drop, put_none, Act.put, List.setIfInBounds_toArray, List.set_cons_zero, List.set_cons_succ, Nat.reduceAdd]
            go_wp2_with (fail)
            exact ⟨rfl, rfl, none, .inl rfl, World.grownBy_alloc _ _ _, ⟨_, _, rfl, FreshA.newh rfl hz1⟩, fun _ => .inr (.inr ⟨_, rfl, Nat.le_refl _⟩)⟩
          | 3, _ =>
            injection ho with ho
            subst ho
            clear hf hd
            have hz1 := hb1.size
            simp only [fillA, List.take, List.drop, put_none, Act.put, List.setIfInBounds_toArray, List.set_cons_zero, List.set_cons_succ, Nat.reduceAdd]
            go_wp2_with (fail)
            exact ⟨rfl, rfl, none, .inl rfl, World.grownBy.refl _ _, (by first | rfl | (simp [FACs]; done) | (simp [FACs, *]; done) | (simp [FACs, gotV]; done) | (simp [FACs, gotV, *]; done)), fun h => absurd h (by decide)⟩
          | 4, _ =>
            injection ho with ho
            subst ho
            have e3 : vals 3 = .pointer (some ⟨w.heap.size, 1, none⟩) := hf 3 (by decide) (by kernel_rfl)
            clear hf hd
            have hz1 := hb1.size
            simp only [fillA, List.take, List.drop, put_none, Act.put, List.setIfInBounds_toArray, List.set_cons_zero, List.set_cons_succ, Nat.reduceAdd, e3]
            have hK := HKEEP.out w1 hb1
            obtain ⟨k0, k1, k2, k3⟩ := hK
            go_wp2_with (fail)
            exact ⟨rfl, rfl, none, .inl rfl, World.grownBy.refl _ _, (by first | rfl | (simp [FACs]; done) | (simp [FACs, *]; done) | (simp [FACs, gotV]; done) | (simp [FACs, gotV, *]; done)), fun h => absurd h (by decide)⟩
          | 5, _ =>
            injection ho with ho
            subst ho
            clear hf hd
            have hz1 := hb1.size
            simp only [fillA, List.take, List.drop, put_none, Act.put, List.setIfInBounds_toArray, List.set_cons_zero, List.set_cons_succ, Nat.reduceAdd]
            go_wp2_with (fail)
            exact ⟨rfl, rfl, none, .inl rfl, World.grownBy.refl _ _, (by first | rfl | (simp [FACs]; done) | (simp [FACs, *]; done) | (simp [FACs, gotV]; done) | (simp [FACs, gotV, *]; done)), fun h => absurd h (by decide)⟩
          | 6, _ =>
            injection ho with ho
            subst ho
            have e4 : vals 4 = .slice (some ⟨bx, ox, none⟩) xs.length cap := hf 4 (by decide) (by kernel_rfl)
            have e5 : vals 5 = .int .i64 ((k : Nat) : Int) := hf 5 (by decide) (by kernel_rfl)
            clear hf hd
            have hz1 := hb1.size
            simp only [fillA, List.take, List.drop, put_none, Act.put, List.setIfInBounds_toArray, List.set_cons_zero, List.set_cons_succ, Nat.reduceAdd, e4, e5]
            go_wp2_with (fail)
            exact ⟨rfl, rfl, none, .inl rfl, World.grownBy.refl _ _, (by first | rfl | (simp [FACs]; done) | (simp [FACs, *]; done) | (simp [FACs, gotV]; done) | (simp [FACs, gotV, *]; done)), fun h => absurd h (by decide)⟩
          | 7, _ =>
            injection ho with ho
            subst ho
            obtain ⟨A2, c2, e2, hF2⟩ := hf 2 (by decide) (by kernel_rfl)
            have e6 : vals 6 = .slice (some ⟨bx, ox, none⟩) k cap := hf 6 (by decide) (by kernel_rfl)
            clear hf hd
            have hz1 := hb1.size
            simp only [fillA, List.take, List.drop, put_none, Act.put, List.setIfInBounds_toArray, List.set_cons_zero, List.set_cons_succ, Nat.reduceAdd, e2, e6]
            refine wpList_pushesR (xs := ([] : List (Int × Int))) rfl (.tmp 32) (.tmp 36) 27 rfl 50 i0 _ 16 Try.underlying27 hI0 hI1 hI2 hI3 rfl (by decide) (fun _ => rfl) one_Iv 0 rfl rfl hF2 (xs.take k) k (by first | (simp; done) | (simp; omega)) (some ⟨bx, ox, none⟩) _ rfl (Rds.below (Rds.takeN HXA.out k) hb1) (by unfold maxLen; omega) (by omega) hz1 ?_
            intro A' cp' w' hF' hg' hat'
            exact RQO_of (.slice A' (0 + k) cp') rfl (by first | rfl | (simp [gotV]; done) | (simp [gotV, *]; done)) ⟨blkO A2, .inr ⟨2, by decide, by decide, by kernel_rfl, by rw [e2, bkI_sl]⟩, hg', ⟨A', cp', by first | rfl | (simp; done) | (congr 1; omega), by simpa using hF'⟩, fun _ => by rw [← bkI_sl (m := 0) (c := 0) (A := A2)]; exact bkI_hat hat'⟩
          | 8, _ =>
            injection ho with ho
            subst ho
            clear hf hd
            have hz1 := hb1.size
            simp only [fillA, List.take, List.drop, put_none, Act.put, List.setIfInBounds_toArray, List.set_cons_zero, List.set_cons_succ, Nat.reduceAdd]
            have hK := HKEEP.out w1 hb1
            obtain ⟨k0, k1, k2, k3⟩ := hK
            go_wp2_with (fail)
            exact ⟨rfl, rfl, none, .inl rfl, World.grownBy.refl _ _, (by first | rfl | (simp [FACs]; done) | (simp [FACs, *]; done) | (simp [FACs, gotV]; done) | (simp [FACs, gotV, *]; done)), fun h => absurd h (by decide)⟩
          | 9, _ =>
            injection ho with ho
            subst ho
            have e8 : vals 8 = .agg #[.int .i64 f, .int .i64 t] := hf 8 (by decide) (by kernel_rfl)
            clear hf hd
            have hz1 := hb1.size
            simp only [fillA, List.take, List.drop, put_none, Act.put, List.setIfInBounds_toArray, List.set_cons_zero, List.set_cons_succ, Nat.reduceAdd, e8]
            go_wp2_with (fail)
            exact ⟨rfl, rfl, none, .inl rfl, World.grownBy_alloc _ _ _, ⟨_, rfl, hz1, heap_alloc_new _ _⟩, fun _ => .inr (.inr ⟨_, rfl, Nat.le_refl _⟩)⟩
          | 10, _ =>
            injection ho with ho
            subst ho
            obtain ⟨A7, c7, e7, hF7⟩ := hf 7 (by decide) (by kernel_rfl)
            obtain ⟨g9, e9, hB9, hh9⟩ := hf 9 (by decide) (by kernel_rfl)
            have hd7_9 := hd 7 9 (by decide) (by decide) (by decide) (by kernel_rfl) (by kernel_rfl) (by decide) (by decide)
            simp only [e7, e9, bkI_sl, bkI_ag] at hd7_9
            clear hf hd
            have hz1 := hb1.size
            simp only [fillA, List.take, List.drop, put_none, Act.put, List.setIfInBounds_toArray, List.set_cons_zero, List.set_cons_succ, Nat.reduceAdd, e7, e9]
            refine wpList_pushesR (xs := xs.take k) rfl (.tmp 37) (.tmp 39) 27 rfl 50 i0 _ 16 Try.underlying27 hI0 hI1 hI2 hI3 rfl (by decide) (fun _ => rfl) one_Iv k (by first | (simp; done) | (simp; omega)) rfl hF7 [(f, t)] 1 rfl (some ⟨g9, 0, none⟩) _ rfl (Rds.ofBox hh9) (by unfold maxLen; omega) (by omega) hz1 ?_
            intro A' cp' w' hF' hg' hat'
            exact RQO_of (.slice A' (k + 1) cp') rfl (by first | rfl | (simp [gotV]; done) | (simp [gotV, *]; done)) ⟨blkO A7, .inr ⟨7, by decide, by decide, by kernel_rfl, by rw [e7, bkI_sl]⟩, hg', ⟨A', cp', by first | rfl | (simp; done) | (congr 1; omega), by exact hF'⟩, fun _ => by rw [← bkI_sl (m := 0) (c := 0) (A := A7)]; exact bkI_hat hat'⟩
          | 11, _ =>
            injection ho with ho
            subst ho
            clear hf hd
            have hz1 := hb1.size
            simp only [fillA, List.take, List.drop, put_none, Act.put, List.setIfInBounds_toArray, List.set_cons_zero, List.set_cons_succ, Nat.reduceAdd]
            go_wp2_with (fail)
            exact ⟨rfl, rfl, none, .inl rfl, World.grownBy.refl _ _, (by first | rfl | (simp [FACs]; done) | (simp [FACs, *]; done) | (simp [FACs, gotV]; done) | (simp [FACs, gotV, *]; done)), fun h => absurd h (by decide)⟩
          | 12, _ =>
            injection ho with ho
            subst ho
            have e11 : vals 11 = .pointer (some ⟨w.heap.size, 1, none⟩) := hf 11 (by decide) (by kernel_rfl)
            clear hf hd
            have hz1 := hb1.size
            simp only [fillA, List.take, List.drop, put_none, Act.put, List.setIfInBounds_toArray, List.set_cons_zero, List.set_cons_succ, Nat.reduceAdd, e11]
            have hK := HKEEP.out w1 hb1
            obtain ⟨k0, k1, k2, k3⟩ := hK
            go_wp2_with (fail)
            exact ⟨rfl, rfl, none, .inl rfl, World.grownBy.refl _ _, (by first | rfl | (simp [FACs]; done) | (simp [FACs, *]; done) | (simp [FACs, gotV]; done) | (simp [FACs, gotV, *]; done)), fun h => absurd h (by decide)⟩
          | 13, _ =>
            injection ho with ho
            subst ho
            clear hf hd
            have hz1 := hb1.size
            simp only [fillA, List.take, List.drop, put_none, Act.put, List.setIfInBounds_toArray, List.set_cons_zero, List.set_cons_succ, Nat.reduceAdd]
            go_wp2_with (fail)
            exact ⟨rfl, rfl, none, .inl rfl, World.grownBy.refl _ _, (by first | rfl | (simp [FACs]; done) | (simp [FACs, *]; done) | (simp [FACs, gotV]; done) | (simp [FACs, gotV, *]; done)), fun h => absurd h (by decide)⟩
          | 14, _ =>
            injection ho with ho
            subst ho
            have e12 : vals 12 = .slice (some ⟨bx, ox, none⟩) xs.length cap := hf 12 (by decide) (by kernel_rfl)
            have e13 : vals 13 = .int .i64 ((k : Nat) : Int) := hf 13 (by decide) (by kernel_rfl)
            clear hf hd
            have hz1 := hb1.size
            simp only [fillA, List.take, List.drop, put_none, Act.put, List.setIfInBounds_toArray, List.set_cons_zero, List.set_cons_succ, Nat.reduceAdd, e12, e13]
            go_wp2_with (fail)
            all_goals refine ⟨rfl, rfl, none, .inl rfl, World.grownBy.refl _ _, ?_, fun h => absurd h (by decide)⟩
            all_goals exact ⟨_, (by first | rfl | (show Value.slice _ _ _ = Value.slice _ _ _; rw [Nat.sub_self])), fun h => by first | rfl | omega⟩
          | 15, _ =>
            injection ho with ho
            subst ho
            obtain ⟨A10, c10, e10, hF10⟩ := hf 10 (by decide) (by kernel_rfl)
            obtain ⟨A14, e14, hA14⟩ := hf 14 (by decide) (by kernel_rfl)
            clear hf hd
            have hz1 := hb1.size
            simp only [fillA, List.take, List.drop, put_none, Act.put, List.setIfInBounds_toArray, List.set_cons_zero, List.set_cons_succ, Nat.reduceAdd, e10, e14]
            refine wpList_pushesR (xs := xs.take k ++ [(f, t)]) rfl (.tmp 40) (.tmp 44) 27 rfl 50 i0 _ 16 Try.underlying27 hI0 hI1 hI2 hI3 rfl (by decide) (fun _ => rfl) one_Iv (k + 1) (by first | (simp; done) | (simp; omega)) rfl hF10 (xs.drop k) (xs.length - k) (by simp) A14 _ rfl (Rds.below (Rds.dropW HXA.out k (by intro b o e; cases e <;> rfl) hA14) hb1) (by unfold maxLen; omega) (by omega) hz1 ?_
            intro A' cp' w' hF' hg' hat'
            exact RQO_of (.slice A' ((k + 1) + (xs.length - k)) cp') rfl (by first | rfl | (simp [gotV]; done) | (simp [gotV, *]; done)) ⟨blkO A10, .inr ⟨10, by decide, by decide, by kernel_rfl, by rw [e10, bkI_sl]⟩, hg', ⟨A', cp', by first | rfl | (simp; done) | (congr 1; omega), by rw [HINS.out]; simpa using hF'⟩, fun _ => by rw [← bkI_sl (m := 0) (c := 0) (A := A10)]; exact bkI_hat hat'⟩
          | 16, _ =>
            injection ho with ho
            subst ho
            have e1 : vals 1 = .int .i64 d := hf 1 (by decide) (by kernel_rfl)
            obtain ⟨A15, c15, e15, hF15⟩ := hf 15 (by decide) (by kernel_rfl)
            clear hf hd
            have hz1 := hb1.size
            simp only [fillA, List.take, List.drop, put_none, Act.put, List.setIfInBounds_toArray, List.set_cons_zero, List.set_cons_succ, Nat.reduceAdd, e1, e15]
            go_wp2_with (fail)
            exact RQO_of (.agg #[.int .i64 d, .slice A15 (xs.length + 1) c15]) rfl (by first | rfl | (simp [gotV]; done) | (simp [gotV, *]; done)) ⟨blkO A15, .inr ⟨15, by decide, by decide, by kernel_rfl, by rw [e15, bkI_sl]⟩, World.grownBy.refl _ _, ⟨A15, c15, rfl, hF15⟩, fun _ => .inr (.inl bkI_ag)⟩
          | 17, _ =>
            injection ho with ho
            subst ho
            clear hf hd
            have hz1 := hb1.size
            simp only [fillA, List.take, List.drop, put_none, Act.put, List.setIfInBounds_toArray, List.set_cons_zero, List.set_cons_succ, Nat.reduceAdd]
            go_wp2_with (fail)
            exact ⟨rfl, rfl, none, .inl rfl, World.grownBy_alloc _ _ _, ⟨_, rfl, hz1, heap_alloc_new _ _⟩, fun _ => .inr (.inr ⟨_, rfl, Nat.le_refl _⟩)⟩
          | m + 18, h => exact absurd h (by omega)
        · intro vals W5 hb5 hf hd
          have e0 : vals 0 = .pointer (some ⟨w.heap.size, 0, none⟩) := hf 0 (by decide) (by decide)
          have e1 : vals 1 = .int .i64 d := hf 1 (by decide) (by decide)
          have e3 : vals 3 = .pointer (some ⟨w.heap.size, 1, none⟩) := hf 3 (by decide) (by decide)
          have e4 : vals 4 = .slice (some ⟨bx, ox, none⟩) xs.length cap := hf 4 (by decide) (by decide)
          have e5 : vals 5 = .int .i64 ((k : Nat) : Int) := hf 5 (by decide) (by decide)
          have e6 : vals 6 = .slice (some ⟨bx, ox, none⟩) k cap := hf 6 (by decide) (by decide)
          have e8 : vals 8 = .agg #[.int .i64 f, .int .i64 t] := hf 8 (by decide) (by decide)
          obtain ⟨g9, e9, hB9, hh9⟩ := hf 9 (by decide) (by decide)
          have e11 : vals 11 = .pointer (some ⟨w.heap.size, 1, none⟩) := hf 11 (by decide) (by decide)
          have e12 : vals 12 = .slice (some ⟨bx, ox, none⟩) xs.length cap := hf 12 (by decide) (by decide)
          have e13 : vals 13 = .int .i64 ((k : Nat) : Int) := hf 13 (by decide) (by decide)
          obtain ⟨A14, e14, hA14⟩ := hf 14 (by decide) (by decide)
          obtain ⟨A16, c16, e16, hF16⟩ := hf 16 (by decide) (by decide)
          obtain ⟨g17, e17, hB17, hh17⟩ := hf 17 (by decide) (by decide)
          have hd9_16 := hd 9 16 (by decide) (by decide) (by decide) (by decide) (by decide) (by decide) (by decide)
          have hd9_17 := hd 9 17 (by decide) (by decide) (by decide) (by decide) (by decide) (by decide) (by decide)
          have hd16_17 := hd 16 17 (by decide) (by decide) (by decide) (by decide) (by decide) (by decide) (by decide)
          simp only [e9, e16, e17, bkI_sl, bkI_ag] at hd9_16 hd9_17 hd16_17
          clear hf hd
          simp only [fillA, List.take, List.drop, put_none, Act.put, List.setIfInBounds_toArray, List.set_cons_zero, List.set_cons_succ, Nat.reduceAdd, e0, e1, e3, e4, e5, e6, e8, e9, e11, e12, e13, e14, e16, e17]
          have ht0 := Fresh.cell hh17 0
          have ht1 := Fresh.cell hh17 1
          have htf := Fresh.froz hh17
          simp at ht0 ht1
          have hgl := Fresh.lt hh17
          have hzW := HBA.out.size
          have hne : NeB g17 A16 := by
            intro a ha e
            subst ha
            rcases hd16_17 with h | h
            · cases h
            · exact h (by rw [← e]; rfl)
          have hbw5 : Below w.heap.size w W5 := Below.trans HBA.out (Below.mono hb5 (by omega))
          have HF6 := hid (hF16.mono (B' := w.heap.size + 3) (by omega))
          have HBW5 := hid hbw5
          have HK2 := hid (HKEP2.out W5 hb5)
          have hz5 := hb5.size
          have HNE := hid hne
          clear hF16 hb5 hbw5 HKEEP HKEP2 hh17 hd16_17 hne
          go_wp2_with (fail)
          refine calls_named ?_
          intro V hV
          have r0 : V.cell? ⟨g17, 0, none⟩ = some (.int .i64 d) := by rw [hV]; simp [cellSet, ht0, ht1]
          have r1 : V.cell? ⟨g17, 1, none⟩ = some (.slice A16 (xs.length + 1) c16) := by rw [hV]; simp [cellSet, ht0, ht1]
          have hTV : g17 < V.heap.size := by rw [hV]; simpa [World.setCell] using hgl
          have hFV : FreshA cIv 2 50 (w.heap.size + 3) V A16 c16 (insI xs (f, t)) := by rw [hV]; exact (HF6.out.set_neb (p := ⟨g17, 0, none⟩) HNE.out _).set_neb (p := ⟨g17, 1, none⟩) HNE.out _
          have hKV : Below (w.heap.size + 3) W5 V := by rw [hV]; exact Below.setCell (Below.setCell (Below.refl _ _) (by show w.heap.size + 3 ≤ g17; omega) _) (by show w.heap.size + 3 ≤ g17; omega) _
          obtain ⟨q4, q5, qf⟩ := HK2.out
          have s4 : V.cell? ⟨w.heap.size + 2, 0, none⟩ = some (.int .i64 0) := (hKV.cell (p := ⟨w.heap.size + 2, 0, none⟩) (by show w.heap.size + 2 < _; omega)).trans q4
          have s5 : V.cell? ⟨w.heap.size + 2, 1, none⟩ = some (.slice none 0 0) := (hKV.cell (p := ⟨w.heap.size + 2, 1, none⟩) (by show w.heap.size + 2 < _; omega)).trans q5
          have sf : ∀ o, V.frozen? ⟨w.heap.size + 2, o, none⟩ = false := fun o => (hKV.frozen (p := ⟨w.heap.size + 2, o, none⟩) (by show w.heap.size + 2 < _; omega)).trans (qf o)
          have hbV : Below w.heap.size w V := Below.trans HBW5.out (Below.mono hKV (by omega))
          have hVs := hKV.size
          have HBW := hid hbV
          have HFV := hid hFV
          clear q4 q5 qf HK2 HF6 HBW5 hKV hbV hFV hV ht0 ht1 htf HNE
          have hval := c_spec_l15Good d A16 (insI xs (f, t)) c16 V HFV.out.rds (by rw [HINL.out]; omega)
          rw [HINL.out] at hval
          refine hval.mono ?_
          rintro e W7 ⟨rfl, hb7⟩
          have hc7 := cellOf hb7; have hf7 := frozOf hb7; have hz7 := sizeOf hb7; (try simp at hz7)
          cases hg2 : brB d (insI xs (f, t))
          · have hV2 : addV d xs (f, t) = ((0, []), false) := by simp [addV, hg2]
            have HV2 := hid hV2
            clear hV2
            simp only [hg2]
            go_wp2_with (fail)
            refine bodyPost_ret (v := .tuple #[.agg #[.int .i64 0, .slice none 0 0], .bool false]) ?_ rfl ?_
            · simp [results, Try.results33, go_sem, ↓IntWalk.iteOmega, *]
            · simp only [HV2.out]
              refine ⟨none, 0, rfl, .inl ⟨rfl, rfl, rfl⟩, ?_⟩
              have hb8 : Below w.heap.size w W7 := Below.trans HBW.out (Below.mono hb7 (by omega))
              repeat' (first | with_reducible exact hb8 | with_reducible refine Below.setCell ?_ ?_ _ | (dsimp only; omega))
          have hV2 : addV d xs (f, t) = ((d, insI xs (f, t)), true) := by simp only [addV, hg, hg2, and_self, if_true]
          have HV2 := hid hV2
          clear hV2
          simp only [hg2]
          have HF7 := hid (HFV.out.below hb7)
          have hb8 : Below w.heap.size w W7 := Below.trans HBW.out (Below.mono hb7 (by omega))
          have HB8 := hid hb8
          clear hb8 HBW HFV
          go_wp2_with (fail)
          refine bodyPost_ret (v := .tuple #[.agg #[.int .i64 d, .slice A16 (xs.length + 1) c16], .bool true]) ?_ rfl ?_
          · simp [results, Try.results33, go_sem, ↓IntWalk.iteOmega, *]
          · simp only [HV2.out, HINL.out]
            refine ⟨A16, c16, rfl, ?_, ?_⟩
            · refine FreshA.mono (B := w.heap.size + 3) ?_ (by omega)
              repeat' (first | with_reducible exact HF7.out | with_reducible refine FreshA.set_low ?_ ?_ _ | (dsimp only; omega))
            · repeat' (first | with_reducible exact HB8.out | with_reducible refine Below.setCell ?_ ?_ _ | (dsimp only; omega))

      obtain rfl : k = xs.length := by omega
      go_wp2_with (fail)
      go_quiet (fail)
      go_wp2_with (fail)
      refine wp_named ?_
      intro WA hWA
      have p0 : WA.cell? ⟨w.heap.size, 0, none⟩ = some (.int .i64 d) := by rw [hWA]; exact n0
      have p1 : WA.cell? ⟨w.heap.size, 1, none⟩ = some (.slice (some ⟨bx, ox, sp⟩) xs.length cap) := by rw [hWA]; exact n1
      have p2 : WA.cell? ⟨w.heap.size + 1, 0, none⟩ = some (.int .i64 f) := by rw [hWA]; exact n2
      have p3 : WA.cell? ⟨w.heap.size + 1, 1, none⟩ = some (.int .i64 t) := by rw [hWA]; exact n3
      have p4 : WA.cell? ⟨w.heap.size + 2, 0, none⟩ = some (.int .i64 0) := by rw [hWA]; exact n4
      have p5 : WA.cell? ⟨w.heap.size + 2, 1, none⟩ = some (.slice none 0 0) := by rw [hWA]; exact n5
      have pf : ∀ o, WA.frozen? ⟨w.heap.size + 2, o, none⟩ = false := by rw [hWA]; exact nf
      have hzA : wr.heap.size ≤ WA.heap.size := by rw [hWA]; exact Nat.le_refl _
      have hbA : Below w.heap.size w WA := by rw [hWA]; first | exact Below.drew hbw'.out | exact below_dn hbw'.out | exact hbw'.out
      have HBA := hid hbA
      have HXA := hid (Rds.below hx hbA)
      clear hWA n0 n1 n2 n3 n4 n5 nf hbr hbw hbw' hbW hbA
      have HKEEP : Hid (∀ w', Below WA.heap.size WA w' → w'.cell? ⟨w.heap.size, 0, none⟩ = some (.int .i64 d) ∧ w'.cell? ⟨w.heap.size, 1, none⟩ = some (.slice (some ⟨bx, ox, sp⟩) xs.length cap) ∧ w'.cell? ⟨w.heap.size + 1, 0, none⟩ = some (.int .i64 f) ∧ w'.cell? ⟨w.heap.size + 1, 1, none⟩ = some (.int .i64 t)) := fun w' hb => ⟨(hb.cell (p := ⟨w.heap.size, 0, none⟩) (by show w.heap.size < _; omega)).trans p0, (hb.cell (p := ⟨w.heap.size, 1, none⟩) (by show w.heap.size < _; omega)).trans p1, (hb.cell (p := ⟨w.heap.size + 1, 0, none⟩) (by show w.heap.size + 1 < _; omega)).trans p2, (hb.cell (p := ⟨w.heap.size + 1, 1, none⟩) (by show w.heap.size + 1 < _; omega)).trans p3⟩
      have HKEP2 : Hid (∀ w', Below WA.heap.size WA w' → w'.cell? ⟨w.heap.size + 2, 0, none⟩ = some (.int .i64 0) ∧ w'.cell? ⟨w.heap.size + 2, 1, none⟩ = some (.slice none 0 0) ∧ ∀ o, w'.frozen? ⟨w.heap.size + 2, o, none⟩ = false) := fun w' hb => ⟨(hb.cell (p := ⟨w.heap.size + 2, 0, none⟩) (by show w.heap.size + 2 < _; omega)).trans p4, (hb.cell (p := ⟨w.heap.size + 2, 1, none⟩) (by show w.heap.size + 2 < _; omega)).trans p5, fun o => (hb.frozen (p := ⟨w.heap.size + 2, o, none⟩) (by show w.heap.size + 2 < _; omega)).trans (pf o)⟩
      clear p0 p1 p2 p3 p4 p5 pf
      refine wp_region_o (n := 18) bkI [2, 7, 9, 10, 15, 16, 17] [2, 7, 10, 15] (FACs (some ⟨bx, ox + xs.length * 2, sp⟩) w.heap.size d (some ⟨bx, ox, sp⟩) xs cap xs.length f t WA.heap.size) rfl (by kernel_rfl) (by kernel_rfl) (by intro j hj; simp at hj ⊢; omega) (fun _ _ d _ _ h => by cases d <;> exact h) ?_ ?_ ?_ ?_
      · intro iq v w1 w2 row hF hg hb hl
        match iq with
        | 0 => exact hF
        | 1 => exact hF
        | 2 => exact SlO.keep hF hg (hb (by decide))
        | 3 => exact hF
        | 4 => exact hF
        | 5 => exact hF
        | 6 => exact hF
        | 7 => exact SlO.keep hF hg (hb (by decide))
        | 8 => exact hF
        | 9 => exact BxO.keep hF hg (hb (by decide))
        | 10 => exact SlO.keep hF hg (hb (by decide))
        | 11 => exact hF
        | 12 => exact hF
        | 13 => exact hF
        | 14 => exact hF
        | 15 => exact SlO.keep hF hg (hb (by decide))
        | 16 => exact AgO.keep hF hg (hb (by decide))
        | 17 => exact ObO.keep hF hg (hb (by decide))
        | m + 18 => exact (show True from trivial)
      · intro iq hi v w1 hF
        have hcase : iq = 2 ∨ iq = 7 ∨ iq = 9 ∨ iq = 10 ∨ iq = 15 ∨ iq = 16 ∨ iq = 17 := by simpa using hi
        rcases hcase with rfl | rfl | rfl | rfl | rfl | rfl | rfl
        · exact SlO.at_ hF
        · exact SlO.at_ hF
        · exact BxO.at_ hF
        · exact SlO.at_ hF
        · exact SlO.at_ hF
        · exact AgO.at_ hF
        · exact ObO.at_ hF
      · intro iq o hi ho vals w1 hb1 hf hd
        match iq, hi with
        | 0, _ =>
          injection ho with ho
          subst ho
          clear hf hd
          have hz1 := hb1.size
          simp only [fillA, List.take, List.drop, put_none, Act.put, List.setIfInBounds_toArray, List.set_cons_zero, List.set_cons_succ, Nat.reduceAdd]
          go_wp2_with (fail)
          exact ⟨rfl, rfl, none, .inl rfl, World.grownBy.refl _ _, (by first | rfl | (simp [FACs]; done) | (simp [FACs, *]; done) | (simp [FACs, gotV]; done) | (simp [FACs, gotV, *]; done)), fun h => absurd h (by decide)⟩
        | 1, _ =>
          injection ho with ho
          subst ho
          have e0 : vals 0 = .pointer (some ⟨w.heap.size, 0, none⟩) := hf 0 (by decide) (by kernel_rfl)
          clear hf hd
          have hz1 := hb1.size
          simp only [fillA, List.take, List.drop, put_none, Act.put, List.setIfInBounds_toArray, List.set_cons_zero, List.set_cons_succ, Nat.reduceAdd, e0]
          have hK := HKEEP.out w1 hb1
          obtain ⟨k0, k1, k2, k3⟩ := hK
          go_wp2_with (fail)
          exact ⟨rfl, rfl, none, .inl rfl, World.grownBy.refl _ _, (by first | rfl | (simp [FACs]; done) | (simp [FACs, *]; done) | (simp [FACs, gotV]; done) | (simp [FACs, gotV, *]; done)), fun h => absurd h (by decide)⟩
        | 2, _ =>
          injection ho with ho
          subst ho
          clear hf hd
          have hz1 := hb1.size
          simp only [fillA, List.take, List.drop, put_none, Act.put, List.setIfInBounds_toArray, List.set_cons_zero, List.set_cons_succ, Nat.reduceAdd]
          go_wp2_with (fail)
          exact ⟨rfl, rfl, none, .inl rfl, World.grownBy_alloc _ _ _, ⟨_, _, rfl, FreshA.newh rfl hz1⟩, fun _ => .inr (.inr ⟨_, rfl, Nat.le_refl _⟩)⟩
        | 3, _ =>
          injection ho with ho
          subst ho
          clear hf hd
          have hz1 := hb1.size
          simp only [fillA, List.take, List.drop, put_none, Act.put, List.setIfInBounds_toArray, List.set_cons_zero, List.set_cons_succ, Nat.reduceAdd]
          go_wp2_with (fail)
          exact ⟨rfl, rfl, none, .inl rfl, World.grownBy.refl _ _, (by first | rfl | (simp [FACs]; done) | (simp [FACs, *]; done) | (simp [FACs, gotV]; done) | (simp [FACs, gotV, *]; done)), fun h => absurd h (by decide)⟩
        | 4, _ =>
          injection ho with ho
          subst ho
          have e3 : vals 3 = .pointer (some ⟨w.heap.size, 1, none⟩) := hf 3 (by decide) (by kernel_rfl)
          clear hf hd
          have hz1 := hb1.size
          simp only [fillA, List.take, List.drop, put_none, Act.put, List.setIfInBounds_toArray, List.set_cons_zero, List.set_cons_succ, Nat.reduceAdd, e3]
          have hK := HKEEP.out w1 hb1
          obtain ⟨k0, k1, k2, k3⟩ := hK
          go_wp2_with (fail)
          exact ⟨rfl, rfl, none, .inl rfl, World.grownBy.refl _ _, (by first | rfl | (simp [FACs]; done) | (simp [FACs, *]; done) | (simp [FACs, gotV]; done) | (simp [FACs, gotV, *]; done)), fun h => absurd h (by decide)⟩
        | 5, _ =>
          injection ho with ho
          subst ho
          clear hf hd
          have hz1 := hb1.size
          simp only [fillA, List.take, List.drop, put_none, Act.put, List.setIfInBounds_toArray, List.set_cons_zero, List.set_cons_succ, Nat.reduceAdd]
          go_wp2_with (fail)
          exact ⟨rfl, rfl, none, .inl rfl, World.grownBy.refl _ _, (by first | rfl | (simp [FACs]; done) | (simp [FACs, *]; done) | (simp [FACs, gotV]; done) | (simp [FACs, gotV, *]; done)), fun h => absurd h (by decide)⟩
        | 6, _ =>
          injection ho with ho
          subst ho
          have e4 : vals 4 = .slice (some ⟨bx, ox, sp⟩) xs.length cap := hf 4 (by decide) (by kernel_rfl)
          have e5 : vals 5 = .int .i64 ((xs.length : Nat) : Int) := hf 5 (by decide) (by kernel_rfl)
          clear hf hd
          have hz1 := hb1.size
          simp only [fillA, List.take, List.drop, put_none, Act.put, List.setIfInBounds_toArray, List.set_cons_zero, List.set_cons_succ, Nat.reduceAdd, e4, e5]
          go_wp2_with (fail)
          exact ⟨rfl, rfl, none, .inl rfl, World.grownBy.refl _ _, (by first | rfl | (simp [FACs]; done) | (simp [FACs, *]; done) | (simp [FACs, gotV]; done) | (simp [FACs, gotV, *]; done)), fun h => absurd h (by decide)⟩
        | 7, _ =>
          injection ho with ho
          subst ho
          obtain ⟨A2, c2, e2, hF2⟩ := hf 2 (by decide) (by kernel_rfl)
          have e6 : vals 6 = .slice (some ⟨bx, ox, sp⟩) xs.length cap := hf 6 (by decide) (by kernel_rfl)
          clear hf hd
          have hz1 := hb1.size
          simp only [fillA, List.take, List.drop, put_none, Act.put, List.setIfInBounds_toArray, List.set_cons_zero, List.set_cons_succ, Nat.reduceAdd, e2, e6]
          refine wpList_pushesR (xs := ([] : List (Int × Int))) rfl (.tmp 32) (.tmp 36) 27 rfl 50 i0 _ 16 Try.underlying27 hI0 hI1 hI2 hI3 rfl (by decide) (fun _ => rfl) one_Iv 0 rfl rfl hF2 (xs.take xs.length) xs.length (by first | (simp; done) | (simp; omega)) (some ⟨bx, ox, sp⟩) _ rfl (Rds.below (Rds.takeN HXA.out xs.length) hb1) (by unfold maxLen; omega) (by omega) hz1 ?_
          intro A' cp' w' hF' hg' hat'
          exact RQO_of (.slice A' (0 + xs.length) cp') rfl (by first | rfl | (simp [gotV]; done) | (simp [gotV, *]; done)) ⟨blkO A2, .inr ⟨2, by decide, by decide, by kernel_rfl, by rw [e2, bkI_sl]⟩, hg', ⟨A', cp', by first | rfl | (simp; done) | (congr 1; omega), by simpa using hF'⟩, fun _ => by rw [← bkI_sl (m := 0) (c := 0) (A := A2)]; exact bkI_hat hat'⟩
        | 8, _ =>
          injection ho with ho
          subst ho
          clear hf hd
          have hz1 := hb1.size
          simp only [fillA, List.take, List.drop, put_none, Act.put, List.setIfInBounds_toArray, List.set_cons_zero, List.set_cons_succ, Nat.reduceAdd]
          have hK := HKEEP.out w1 hb1
          obtain ⟨k0, k1, k2, k3⟩ := hK
          go_wp2_with (fail)
          exact ⟨rfl, rfl, none, .inl rfl, World.grownBy.refl _ _, (by first | rfl | (simp [FACs]; done) | (simp [FACs, *]; done) | (simp [FACs, gotV]; done) | (simp [FACs, gotV, *]; done)), fun h => absurd h (by decide)⟩
        | 9, _ =>
          injection ho with ho
          subst ho
          have e8 : vals 8 = .agg #[.int .i64 f, .int .i64 t] := hf 8 (by decide) (by kernel_rfl)
          clear hf hd
          have hz1 := hb1.size
          simp only [fillA, List.take, List.drop, put_none, Act.put, List.setIfInBounds_toArray, List.set_cons_zero, List.set_cons_succ, Nat.reduceAdd, e8]
          go_wp2_with (fail)
          exact ⟨rfl, rfl, none, .inl rfl, World.grownBy_alloc _ _ _, ⟨_, rfl, hz1, heap_alloc_new _ _⟩, fun _ => .inr (.inr ⟨_, rfl, Nat.le_refl _⟩)⟩
        | 10, _ =>
          injection ho with ho
          subst ho
          obtain ⟨A7, c7, e7, hF7⟩ := hf 7 (by decide) (by kernel_rfl)
          obtain ⟨g9, e9, hB9, hh9⟩ := hf 9 (by decide) (by kernel_rfl)
          have hd7_9 := hd 7 9 (by decide) (by decide) (by decide) (by kernel_rfl) (by kernel_rfl) (by decide) (by decide)
          simp only [e7, e9, bkI_sl, bkI_ag] at hd7_9
          clear hf hd
          have hz1 := hb1.size
          simp only [fillA, List.take, List.drop, put_none, Act.put, List.setIfInBounds_toArray, List.set_cons_zero, List.set_cons_succ, Nat.reduceAdd, e7, e9]
          refine wpList_pushesR (xs := xs.take xs.length) rfl (.tmp 37) (.tmp 39) 27 rfl 50 i0 _ 16 Try.underlying27 hI0 hI1 hI2 hI3 rfl (by decide) (fun _ => rfl) one_Iv xs.length (by first | (simp; done) | (simp; omega)) rfl hF7 [(f, t)] 1 rfl (some ⟨g9, 0, none⟩) _ rfl (Rds.ofBox hh9) (by unfold maxLen; omega) (by omega) hz1 ?_
          intro A' cp' w' hF' hg' hat'
          exact RQO_of (.slice A' (xs.length + 1) cp') rfl (by first | rfl | (simp [gotV]; done) | (simp [gotV, *]; done)) ⟨blkO A7, .inr ⟨7, by decide, by decide, by kernel_rfl, by rw [e7, bkI_sl]⟩, hg', ⟨A', cp', by first | rfl | (simp; done) | (congr 1; omega), by exact hF'⟩, fun _ => by rw [← bkI_sl (m := 0) (c := 0) (A := A7)]; exact bkI_hat hat'⟩
        | 11, _ =>
          injection ho with ho
          subst ho
          clear hf hd
          have hz1 := hb1.size
          simp only [fillA, List.take, List.drop, put_none, Act.put, List.setIfInBounds_toArray, List.set_cons_zero, List.set_cons_succ, Nat.reduceAdd]
          go_wp2_with (fail)
          exact ⟨rfl, rfl, none, .inl rfl, World.grownBy.refl _ _, (by first | rfl | (simp [FACs]; done) | (simp [FACs, *]; done) | (simp [FACs, gotV]; done) | (simp [FACs, gotV, *]; done)), fun h => absurd h (by decide)⟩
        | 12, _ =>
          injection ho with ho
          subst ho
          have e11 : vals 11 = .pointer (some ⟨w.heap.size, 1, none⟩) := hf 11 (by decide) (by kernel_rfl)
          clear hf hd
          have hz1 := hb1.size
          simp only [fillA, List.take, List.drop, put_none, Act.put, List.setIfInBounds_toArray, List.set_cons_zero, List.set_cons_succ, Nat.reduceAdd, e11]
          have hK := HKEEP.out w1 hb1
          obtain ⟨k0, k1, k2, k3⟩ := hK
          go_wp2_with (fail)
          exact ⟨rfl, rfl, none, .inl rfl, World.grownBy.refl _ _, (by first | rfl | (simp [FACs]; done) | (simp [FACs, *]; done) | (simp [FACs, gotV]; done) | (simp [FACs, gotV, *]; done)), fun h => absurd h (by decide)⟩
        | 13, _ =>
          injection ho with ho
          subst ho
          clear hf hd
          have hz1 := hb1.size
          simp only [fillA, List.take, List.drop, put_none, Act.put, List.setIfInBounds_toArray, List.set_cons_zero, List.set_cons_succ, Nat.reduceAdd]
          go_wp2_with (fail)
          exact ⟨rfl, rfl, none, .inl rfl, World.grownBy.refl _ _, (by first | rfl | (simp [FACs]; done) | (simp [FACs, *]; done) | (simp [FACs, gotV]; done) | (simp [FACs, gotV, *]; done)), fun h => absurd h (by decide)⟩
        | 14, _ =>
          injection ho with ho
          subst ho
          have e12 : vals 12 = .slice (some ⟨bx, ox, sp⟩) xs.length cap := hf 12 (by decide) (by kernel_rfl)
          have e13 : vals 13 = .int .i64 ((xs.length : Nat) : Int) := hf 13 (by decide) (by kernel_rfl)
          clear hf hd
          have hz1 := hb1.size
          simp only [fillA, List.take, List.drop, put_none, Act.put, List.setIfInBounds_toArray, List.set_cons_zero, List.set_cons_succ, Nat.reduceAdd, e12, e13]
          go_wp2_with (fail)
          all_goals refine ⟨rfl, rfl, none, .inl rfl, World.grownBy.refl _ _, ?_, fun h => absurd h (by decide)⟩
          all_goals exact ⟨_, (by first | rfl | (show Value.slice _ _ _ = Value.slice _ _ _; rw [Nat.sub_self])), fun h => by first | rfl | omega⟩
        | 15, _ =>
          injection ho with ho
          subst ho
          obtain ⟨A10, c10, e10, hF10⟩ := hf 10 (by decide) (by kernel_rfl)
          obtain ⟨A14, e14, hA14⟩ := hf 14 (by decide) (by kernel_rfl)
          clear hf hd
          have hz1 := hb1.size
          simp only [fillA, List.take, List.drop, put_none, Act.put, List.setIfInBounds_toArray, List.set_cons_zero, List.set_cons_succ, Nat.reduceAdd, e10, e14]
          refine wpList_pushesR (xs := xs.take xs.length ++ [(f, t)]) rfl (.tmp 40) (.tmp 44) 27 rfl 50 i0 _ 16 Try.underlying27 hI0 hI1 hI2 hI3 rfl (by decide) (fun _ => rfl) one_Iv (xs.length + 1) (by first | (simp; done) | (simp; omega)) rfl hF10 (xs.drop xs.length) (xs.length - xs.length) (by simp) A14 _ rfl (Rds.below (Rds.dropW HXA.out xs.length (by intro b o e; cases e <;> rfl) hA14) hb1) (by unfold maxLen; omega) (by omega) hz1 ?_
          intro A' cp' w' hF' hg' hat'
          exact RQO_of (.slice A' ((xs.length + 1) + (xs.length - xs.length)) cp') rfl (by first | rfl | (simp [gotV]; done) | (simp [gotV, *]; done)) ⟨blkO A10, .inr ⟨10, by decide, by decide, by kernel_rfl, by rw [e10, bkI_sl]⟩, hg', ⟨A', cp', by first | rfl | (simp; done) | (congr 1; omega), by rw [HINS.out]; simpa using hF'⟩, fun _ => by rw [← bkI_sl (m := 0) (c := 0) (A := A10)]; exact bkI_hat hat'⟩
        | 16, _ =>
          injection ho with ho
          subst ho
          have e1 : vals 1 = .int .i64 d := hf 1 (by decide) (by kernel_rfl)
          obtain ⟨A15, c15, e15, hF15⟩ := hf 15 (by decide) (by kernel_rfl)
          clear hf hd
          have hz1 := hb1.size
          simp only [fillA, List.take, List.drop, put_none, Act.put, List.setIfInBounds_toArray, List.set_cons_zero, List.set_cons_succ, Nat.reduceAdd, e1, e15]
          go_wp2_with (fail)
          exact RQO_of (.agg #[.int .i64 d, .slice A15 (xs.length + 1) c15]) rfl (by first | rfl | (simp [gotV]; done) | (simp [gotV, *]; done)) ⟨blkO A15, .inr ⟨15, by decide, by decide, by kernel_rfl, by rw [e15, bkI_sl]⟩, World.grownBy.refl _ _, ⟨A15, c15, rfl, hF15⟩, fun _ => .inr (.inl bkI_ag)⟩
        | 17, _ =>
          injection ho with ho
          subst ho
          clear hf hd
          have hz1 := hb1.size
          simp only [fillA, List.take, List.drop, put_none, Act.put, List.setIfInBounds_toArray, List.set_cons_zero, List.set_cons_succ, Nat.reduceAdd]
          go_wp2_with (fail)
          exact ⟨rfl, rfl, none, .inl rfl, World.grownBy_alloc _ _ _, ⟨_, rfl, hz1, heap_alloc_new _ _⟩, fun _ => .inr (.inr ⟨_, rfl, Nat.le_refl _⟩)⟩
        | m + 18, h => exact absurd h (by omega)
      · intro vals W5 hb5 hf hd
        have e0 : vals 0 = .pointer (some ⟨w.heap.size, 0, none⟩) := hf 0 (by decide) (by decide)
        have e1 : vals 1 = .int .i64 d := hf 1 (by decide) (by decide)
        have e3 : vals 3 = .pointer (some ⟨w.heap.size, 1, none⟩) := hf 3 (by decide) (by decide)
        have e4 : vals 4 = .slice (some ⟨bx, ox, sp⟩) xs.length cap := hf 4 (by decide) (by decide)
        have e5 : vals 5 = .int .i64 ((xs.length : Nat) : Int) := hf 5 (by decide) (by decide)
        have e6 : vals 6 = .slice (some ⟨bx, ox, sp⟩) xs.length cap := hf 6 (by decide) (by decide)
        have e8 : vals 8 = .agg #[.int .i64 f, .int .i64 t] := hf 8 (by decide) (by decide)
        obtain ⟨g9, e9, hB9, hh9⟩ := hf 9 (by decide) (by decide)
        have e11 : vals 11 = .pointer (some ⟨w.heap.size, 1, none⟩) := hf 11 (by decide) (by decide)
        have e12 : vals 12 = .slice (some ⟨bx, ox, sp⟩) xs.length cap := hf 12 (by decide) (by decide)
        have e13 : vals 13 = .int .i64 ((xs.length : Nat) : Int) := hf 13 (by decide) (by decide)
        obtain ⟨A14, e14, hA14⟩ := hf 14 (by decide) (by decide)
        obtain ⟨A16, c16, e16, hF16⟩ := hf 16 (by decide) (by decide)
        obtain ⟨g17, e17, hB17, hh17⟩ := hf 17 (by decide) (by decide)
        have hd9_16 := hd 9 16 (by decide) (by decide) (by decide) (by decide) (by decide) (by decide) (by decide)
        have hd9_17 := hd 9 17 (by decide) (by decide) (by decide) (by decide) (by decide) (by decide) (by decide)
        have hd16_17 := hd 16 17 (by decide) (by decide) (by decide) (by decide) (by decide) (by decide) (by decide)
        simp only [e9, e16, e17, bkI_sl, bkI_ag] at hd9_16 hd9_17 hd16_17
        clear hf hd
        simp only [fillA, List.take, List.drop, put_none, Act.put, List.setIfInBounds_toArray, List.set_cons_zero, List.set_cons_succ, Nat.reduceAdd, e0, e1, e3, e4, e5, e6, e8, e9, e11, e12, e13, e14, e16, e17]
        have ht0 := Fresh.cell hh17 0
        have ht1 := Fresh.cell hh17 1
        have htf := Fresh.froz hh17
        simp at ht0 ht1
        have hgl := Fresh.lt hh17
        have hzW := HBA.out.size
        have hne : NeB g17 A16 := by
          intro a ha e
          subst ha
          rcases hd16_17 with h | h
          · cases h
          · exact h (by rw [← e]; rfl)
        have hbw5 : Below w.heap.size w W5 := Below.trans HBA.out (Below.mono hb5 (by omega))
        have HF6 := hid (hF16.mono (B' := w.heap.size + 3) (by omega))
        have HBW5 := hid hbw5
        have HK2 := hid (HKEP2.out W5 hb5)
        have hz5 := hb5.size
        have HNE := hid hne
        clear hF16 hb5 hbw5 HKEEP HKEP2 hh17 hd16_17 hne
        go_wp2_with (fail)
        refine calls_named ?_
        intro V hV
        have r0 : V.cell? ⟨g17, 0, none⟩ = some (.int .i64 d) := by rw [hV]; simp [cellSet, ht0, ht1]
        have r1 : V.cell? ⟨g17, 1, none⟩ = some (.slice A16 (xs.length + 1) c16) := by rw [hV]; simp [cellSet, ht0, ht1]
        have hTV : g17 < V.heap.size := by rw [hV]; simpa [World.setCell] using hgl
        have hFV : FreshA cIv 2 50 (w.heap.size + 3) V A16 c16 (insI xs (f, t)) := by rw [hV]; exact (HF6.out.set_neb (p := ⟨g17, 0, none⟩) HNE.out _).set_neb (p := ⟨g17, 1, none⟩) HNE.out _
        have hKV : Below (w.heap.size + 3) W5 V := by rw [hV]; exact Below.setCell (Below.setCell (Below.refl _ _) (by show w.heap.size + 3 ≤ g17; omega) _) (by show w.heap.size + 3 ≤ g17; omega) _
        obtain ⟨q4, q5, qf⟩ := HK2.out
        have s4 : V.cell? ⟨w.heap.size + 2, 0, none⟩ = some (.int .i64 0) := (hKV.cell (p := ⟨w.heap.size + 2, 0, none⟩) (by show w.heap.size + 2 < _; omega)).trans q4
        have s5 : V.cell? ⟨w.heap.size + 2, 1, none⟩ = some (.slice none 0 0) := (hKV.cell (p := ⟨w.heap.size + 2, 1, none⟩) (by show w.heap.size + 2 < _; omega)).trans q5
        have sf : ∀ o, V.frozen? ⟨w.heap.size + 2, o, none⟩ = false := fun o => (hKV.frozen (p := ⟨w.heap.size + 2, o, none⟩) (by show w.heap.size + 2 < _; omega)).trans (qf o)
        have hbV : Below w.heap.size w V := Below.trans HBW5.out (Below.mono hKV (by omega))
        have hVs := hKV.size
        have HBW := hid hbV
        have HFV := hid hFV
        clear q4 q5 qf HK2 HF6 HBW5 hKV hbV hFV hV ht0 ht1 htf HNE
        have hval := c_spec_l15Good d A16 (insI xs (f, t)) c16 V HFV.out.rds (by rw [HINL.out]; omega)
        rw [HINL.out] at hval
        refine hval.mono ?_
        rintro e W7 ⟨rfl, hb7⟩
        have hc7 := cellOf hb7; have hf7 := frozOf hb7; have hz7 := sizeOf hb7; (try simp at hz7)
        cases hg2 : brB d (insI xs (f, t))
        · have hV2 : addV d xs (f, t) = ((0, []), false) := by simp [addV, hg2]
          have HV2 := hid hV2
          clear hV2
          simp only [hg2]
          go_wp2_with (fail)
          refine bodyPost_ret (v := .tuple #[.agg #[.int .i64 0, .slice none 0 0], .bool false]) ?_ rfl ?_
          · simp [results, Try.results33, go_sem, ↓IntWalk.iteOmega, *]
          · simp only [HV2.out]
            refine ⟨none, 0, rfl, .inl ⟨rfl, rfl, rfl⟩, ?_⟩
            have hb8 : Below w.heap.size w W7 := Below.trans HBW.out (Below.mono hb7 (by omega))
            repeat' (first | with_reducible exact hb8 | with_reducible refine Below.setCell ?_ ?_ _ | (dsimp only; omega))
        have hV2 : addV d xs (f, t) = ((d, insI xs (f, t)), true) := by simp only [addV, hg, hg2, and_self, if_true]
        have HV2 := hid hV2
        clear hV2
        simp only [hg2]
        have HF7 := hid (HFV.out.below hb7)
        have hb8 : Below w.heap.size w W7 := Below.trans HBW.out (Below.mono hb7 (by omega))
        have HB8 := hid hb8
        clear hb8 HBW HFV
        go_wp2_with (fail)
        refine bodyPost_ret (v := .tuple #[.agg #[.int .i64 d, .slice A16 (xs.length + 1) c16], .bool true]) ?_ rfl ?_
        · simp [results, Try.results33, go_sem, ↓IntWalk.iteOmega, *]
        · simp only [HV2.out, HINL.out]
          refine ⟨A16, c16, rfl, ?_, ?_⟩
          · refine FreshA.mono (B := w.heap.size + 3) ?_ (by omega)
            repeat' (first | with_reducible exact HF7.out | with_reducible refine FreshA.set_low ?_ ?_ _ | (dsimp only; omega))
          · repeat' (first | with_reducible exact HB8.out | with_reducible refine Below.setCell ?_ ?_ _ | (dsimp only; omega))

end Go.Proofs.Yteciijnpfapmhaa
