import Derived.Test.YtfipmalomhflgaaQY03
namespace Go.Proofs.Ytfipmalomhflgaa
set_option linter.unusedSimpArgs false
set_option linter.unusedVariables false
open Go.RowKit

set_option maxHeartbeats 2000000 in
theorem c_laws_markBerthS (B : Nat) (A : Option Addr) (xs : List (Int × Int × Int × Int × Int)) (cap : Nat) (k0 : Int) (w : World) (h : FreshA cBer 5 48 B w A cap xs) (hn : xs.length ≤ 10000000) (hk0 : 0 ≤ k0 ∧ k0 ≤ 100000000) :
    Calls Try.prog 29 #[.slice A xs.length cap, .int .i64 k0] w fun e w' => e = .returned (.int .i64 (k0 + 5 * xs.length)) ∧ FreshA cBer 5 48 B w' A cap (mkBer xs.length k0) ∧ w.grownBy w' (blkO A) := by
  rcases h with ⟨rfl, rfl, rfl⟩ | ⟨g, rfl, hB, hO⟩
  · go_enter Try.func29, Try.ntmps29
    go_wp2_with (fail)
    go_loopw [1, 5] (fun q i wr => q = .int .i64 k0 ∧ i = .int .i64 0 ∧ wr = w) (fun _ _ _ => 0)
    case atStart => exact ⟨rfl, rfl, rfl⟩
    case round =>
      obtain ⟨rfl, rfl, rfl⟩ := hrel
      go_wp2_with (fail)
      go_ret
      exact ⟨ret_int (by simp), .inl ⟨rfl, rfl, rfl⟩, World.grownBy.refl _ _⟩
  · have hlen : xs.length ≤ cap := by
      obtain ⟨_, _, _, h, _⟩ := hO
      exact h
    have hE := hO.empty
    clear hO
    generalize xs.length = n at *
    go_enter Try.func29, Try.ntmps29
    go_wp2_with (fail)
    go_loopw [1, 5] (fun q i wr => ∃ j : Nat, j ≤ n ∧ i = .int .i64 j ∧ q = .int .i64 (k0 + 5 * (j : Int)) ∧ OwnS cBer 5 48 wr g cap (mkBer j k0) ∧ w.grownBy wr (some g)) (fun _ i _ => n - (intOf i).toNat)
    case atStart => exact ⟨0, Nat.zero_le _, rfl, by simp, hE, World.grownBy.refl _ _⟩
    case round =>
      obtain ⟨j, hj, rfl, rfl, hO, hg⟩ := hrel
      clear hE
      by_cases hlt : j < n
      · have hlo := hO.lt
        obtain ⟨u0, hu0⟩ := hO.cell (j * 5) (by omega)
        obtain ⟨u1, hu1⟩ := hO.cell (j * 5 + 1) (by omega)
        obtain ⟨u2, hu2⟩ := hO.cell (j * 5 + 2) (by omega)
        obtain ⟨u3, hu3⟩ := hO.cell (j * 5 + 3) (by omega)
        obtain ⟨u4, hu4⟩ := hO.cell (j * 5 + 4) (by omega)
        have hfz : ∀ o, wr.frozen? ⟨g, o, none⟩ = false := fun o => hO.frozen o
        have HO := hid hO
        have HG := hid hg
        clear hO hg
        go_wp2_with (fail)
        go_roundw
        case rel =>
          refine ⟨j + 1, by omega, by go_num, by (congr 1; omega), ?_, ?_⟩
          · refine OwnS.pushm (fun _ => rfl) HO.out (mkBer_len _ _) (mkBer_snoc _ _) (by omega) ?_
            simp only [stores, cBer]
            simp only [Nat.add_assoc, Int.add_assoc, Nat.reduceAdd, Int.reduceAdd]
          · exact grown_set (grown_set (grown_set (grown_set (grown_set HG.out))))
        case measure => simp [intOf]; omega
      · obtain rfl : j = n := by omega
        go_wp2_with (fail)
        go_ret
        exact ⟨rfl, .inr ⟨g, rfl, hB, by simpa [mkBer_len] using hO⟩, hg⟩

set_option maxHeartbeats 2000000 in
theorem c_laws_heldBerthS (A : Option Addr) (n cap : Nat) (k0 : Int) (w : World) (h : Rds cBer 5 w A (mkBer n k0)) (hn : n ≤ 10000000) (hk0 : 0 ≤ k0 ∧ k0 ≤ 100000000) :
    Calls Try.prog 30 #[.slice A n cap, .int .i64 k0] w fun e w' => e = .returned (.int .i64 (k0 + 5 * n)) ∧ Below w.heap.size w w' := by
  go_enter Try.func30, Try.ntmps30
  go_wp2_with (fail)
  go_loopw [1, 5] (fun q i wr => ∃ j : Nat, j ≤ n ∧ i = .int .i64 j ∧ q = .int .i64 (k0 + 5 * (j : Int)) ∧ Below w.heap.size w wr) (fun _ i _ => n - (intOf i).toNat)
  case atStart => exact ⟨0, Nat.zero_le _, rfl, by simp, Below.refl _ _⟩
  case round =>
    obtain ⟨j, hj, rfl, rfl, hbr⟩ := hrel
    by_cases hlt : j < n
    · have hlm : j < (mkBer n k0).length := by rw [mkBer_len]; exact hlt
      obtain ⟨bx, ox, rfl, hbx, hcx⟩ := h j _ (List.getElem?_eq_getElem hlm)
      rw [mkBer_at n k0 j hlt hlm] at hcx
      have hx0 := hcx 0 _ rfl
      have hx1 := hcx 1 _ rfl
      have hx2 := hcx 2 _ rfl
      have hx3 := hcx 3 _ rfl
      have hx4 := hcx 4 _ rfl
      simp only [Nat.add_zero] at hx0
      clear hcx h
      have hc := cellOf hbr
      go_wp2_with (fail)
      go_roundw
      case rel => exact ⟨j + 1, by omega, by go_num, by (congr 1; omega), hbr⟩
      case measure => simp [intOf]; omega
    · obtain rfl : j = n := by omega
      go_wp2_with (fail)
      go_ret
      exact ⟨rfl, hbr⟩

set_option maxHeartbeats 2000000 in
theorem c_laws_markIntS (B : Nat) (A : Option Addr) (xs : List (Int)) (cap : Nat) (k0 : Int) (w : World) (h : FreshA cIn 1 3 B w A cap xs) (hn : xs.length ≤ 10000000) (hk0 : 0 ≤ k0 ∧ k0 ≤ 100000000) :
    Calls Try.prog 34 #[.slice A xs.length cap, .int .i64 k0] w fun e w' => e = .returned (.int .i64 (k0 + 1 * xs.length)) ∧ FreshA cIn 1 3 B w' A cap (mkIn xs.length k0) ∧ w.grownBy w' (blkO A) := by
  rcases h with ⟨rfl, rfl, rfl⟩ | ⟨g, rfl, hB, hO⟩
  · go_enter Try.func34, Try.ntmps34
    go_wp2_with (fail)
    go_loopw [1, 5] (fun q i wr => q = .int .i64 k0 ∧ i = .int .i64 0 ∧ wr = w) (fun _ _ _ => 0)
    case atStart => exact ⟨rfl, rfl, rfl⟩
    case round =>
      obtain ⟨rfl, rfl, rfl⟩ := hrel
      go_wp2_with (fail)
      go_ret
      exact ⟨ret_int (by simp), .inl ⟨rfl, rfl, rfl⟩, World.grownBy.refl _ _⟩
  · have hlen : xs.length ≤ cap := by
      obtain ⟨_, _, _, h, _⟩ := hO
      exact h
    have hE := hO.empty
    clear hO
    generalize xs.length = n at *
    go_enter Try.func34, Try.ntmps34
    go_wp2_with (fail)
    go_loopw [1, 5] (fun q i wr => ∃ j : Nat, j ≤ n ∧ i = .int .i64 j ∧ q = .int .i64 (k0 + 1 * (j : Int)) ∧ OwnS cIn 1 3 wr g cap (mkIn j k0) ∧ w.grownBy wr (some g)) (fun _ i _ => n - (intOf i).toNat)
    case atStart => exact ⟨0, Nat.zero_le _, rfl, by simp, hE, World.grownBy.refl _ _⟩
    case round =>
      obtain ⟨j, hj, rfl, rfl, hO, hg⟩ := hrel
      clear hE
      by_cases hlt : j < n
      · have hlo := hO.lt
        obtain ⟨u0, hu0⟩ := hO.cell (j) (by omega)
        have hfz : ∀ o, wr.frozen? ⟨g, o, none⟩ = false := fun o => hO.frozen o
        have HO := hid hO
        have HG := hid hg
        clear hO hg
        go_wp2_with (fail)
        go_roundw
        case rel =>
          refine ⟨j + 1, by omega, by go_num, by (congr 1; omega), ?_, ?_⟩
          · refine OwnS.pushm (fun _ => rfl) HO.out (mkIn_len _ _) (mkIn_snoc _ _) (by omega) ?_
            simp only [stores, cIn]
            (try simp only [Nat.mul_one])
            (try (congr 3 <;> omega))
          · exact grown_set HG.out
        case measure => simp [intOf]; omega
      · obtain rfl : j = n := by omega
        go_wp2_with (fail)
        go_ret
        exact ⟨rfl, .inr ⟨g, rfl, hB, by simpa [mkIn_len] using hO⟩, hg⟩

set_option maxHeartbeats 2000000 in
theorem c_laws_heldIntS (A : Option Addr) (n cap : Nat) (k0 : Int) (w : World) (h : Rds cIn 1 w A (mkIn n k0)) (hn : n ≤ 10000000) (hk0 : 0 ≤ k0 ∧ k0 ≤ 100000000) :
    Calls Try.prog 35 #[.slice A n cap, .int .i64 k0] w fun e w' => e = .returned (.int .i64 (k0 + 1 * n)) ∧ Below w.heap.size w w' := by
  go_enter Try.func35, Try.ntmps35
  go_wp2_with (fail)
  go_loopw [1, 5] (fun q i wr => ∃ j : Nat, j ≤ n ∧ i = .int .i64 j ∧ q = .int .i64 (k0 + 1 * (j : Int)) ∧ Below w.heap.size w wr) (fun _ i _ => n - (intOf i).toNat)
  case atStart => exact ⟨0, Nat.zero_le _, rfl, by simp, Below.refl _ _⟩
  case round =>
    obtain ⟨j, hj, rfl, rfl, hbr⟩ := hrel
    by_cases hlt : j < n
    · have hlm : j < (mkIn n k0).length := by rw [mkIn_len]; exact hlt
      obtain ⟨bx, ox, rfl, hbx, hcx⟩ := h j _ (List.getElem?_eq_getElem hlm)
      rw [mkIn_at n k0 j hlt hlm] at hcx
      have hx0 := hcx 0 _ rfl
      simp only [Nat.add_zero, Nat.mul_one] at hx0
      clear hcx h
      have hc := cellOf hbr
      go_wp2_with (fail)
      go_roundw
      case rel => exact ⟨j + 1, by omega, by go_num, by (congr 1; omega), hbr⟩
      case measure => simp [intOf]; omega
    · obtain rfl : j = n := by omega
      go_wp2_with (fail)
      go_ret
      exact ⟨rfl, hbr⟩

end Go.Proofs.Ytfipmalomhflgaa
namespace Go.Proofs.Ytfipmalomhflgaa
set_option linter.unusedSimpArgs false
set_option linter.unusedVariables false
open Go.RowKit

def FS33_6 (x y : Int) (bx ox by_ oy k n0 n1 cap0 cap1 : Nat) (w W0 : World) (iq : Nat) (v : Value) (w1 : World) : Prop := match iq with
  | 0 => v = .slice (some ⟨bx, ox, none⟩) n0 cap0
  | 1 => v = .int .i64 (k)
  | 2 => v = .pointer (some ⟨bx, ox + k, none⟩)
  | 3 => v = .int .i64 (x)
  | 4 => v = .slice (some ⟨by_, oy, none⟩) n1 cap1
  | 5 => v = .int .i64 (k)
  | 6 => v = .pointer (some ⟨by_, oy + k, none⟩)
  | 7 => v = .int .i64 (y)
  | 8 => v = .bool (false)
  | _ => True

def FS33_6_17 (x y : Int) (bx ox by_ oy k n0 n1 cap0 cap1 : Nat) (w W0 : World) (iq : Nat) (v : Value) (w1 : World) : Prop := match iq with
  | 0 => v = .slice (some ⟨bx, ox, none⟩) n0 cap0
  | 1 => v = .int .i64 (k)
  | 2 => v = .pointer (some ⟨bx, ox + k, none⟩)
  | 3 => v = .int .i64 (x)
  | 4 => v = .slice (some ⟨by_, oy, none⟩) n1 cap1
  | 5 => v = .int .i64 (k)
  | 6 => v = .pointer (some ⟨by_, oy + k, none⟩)
  | 7 => v = .int .i64 (y)
  | 8 => v = .bool (true)
  | _ => True

set_option maxHeartbeats 2000000 in
theorem c_laws_eqIntS (A0 A1 : Option Addr) (xs ys : List Int) (cap0 cap1 : Nat) (w : World) (h0 : Rds cIn 1 w A0 xs) (h1 : Rds cIn 1 w A1 ys) (hn0 : xs.length ≤ 9223372036854775807) (hn1 : ys.length ≤ 9223372036854775807) :
    Calls Try.prog 33 #[.slice A0 xs.length cap0, .slice A1 ys.length cap1] w fun e w' => e = .returned (.bool (decide (xs = ys))) ∧ Below w.heap.size w w' := by
  by_cases hlen : xs.length = ys.length
  · have H := hid hlen
    have hl1 : xs.length ≤ ys.length := by omega
    have hl2 : ys.length ≤ xs.length := by omega
    clear hlen
    go_enter Try.func33, Try.ntmps33
    go_wp2_with (fail)
    go_loopw [5] (fun i wr => ∃ k : Nat, k ≤ xs.length ∧ i = .int .i64 k ∧ xs.take k = ys.take k ∧ Below w.heap.size w wr) (fun i _ => xs.length - (intOf i).toNat)
    case atStart => exact ⟨0, Nat.zero_le _, rfl, rfl, Below.refl _ _⟩
    case round =>
      obtain ⟨k, hk, rfl, hl, hbr⟩ := hrel
      have HT := hid hl
      clear hl
      by_cases hlt : k < xs.length
      · have hlt2 : k < ys.length := by omega
        obtain ⟨bx, ox, rfl, hbx, hcx⟩ := h0 k xs[k] (List.getElem?_eq_getElem hlt)
        obtain ⟨by_, oy, rfl, hby, hcy⟩ := h1 k ys[k] (List.getElem?_eq_getElem hlt2)
        have hx0 := hcx 0 _ rfl
        have hy0 := hcy 0 _ rfl
        simp only [Nat.add_zero, Nat.mul_one] at hx0 hy0
        clear hcx hcy h0 h1
        obtain ⟨x, hxk⟩ : ∃ x, x = xs[k] := ⟨_, rfl⟩
        obtain ⟨y, hyk⟩ : ∃ y, y = ys[k] := ⟨_, rfl⟩
        simp only [← hxk, ← hyk] at hx0 hy0
        have HX := hid hxk
        have HY := hid hyk
        clear hxk hyk
        have hc := cellOf hbr
        have hf := frozOf hbr
        have hz := sizeOf hbr
        by_cases hxy : x = y
        · go_wp2_with (fail)
          refine wp_region_w (n := 9) [] [] (FS33_6 x y bx ox by_ oy k xs.length ys.length cap0 cap1 w) rfl (by kernel_rfl) (fun _ _ d _ _ h => by cases d <;> exact h) ?_ ?_ ?_ ?_ ?_ ?_
          · intro iq
            match iq with
            | 0 | 1 | 2 | 3 | 4 | 5 | 6 | 7 | 8 => exact Stable.const _
            | n + 9 => exact Stable.const _
          · intro iq hi
            exact absurd hi (by simp)
          · intro iq hi
            exact absurd hi (by simp)
          · intro iq o hi hl ho vals w1 hb1 hf
            exact absurd hl (by simp)
          · intro iq o hi hl ho vals w1 hb1 hf
            match iq, hi with
            | 0, _ =>
              injection ho with ho
              subst ho
              clear hl
              simp only [fillA, List.take, List.drop, put_none, Act.put, List.setIfInBounds_toArray, List.set_cons_zero, List.set_cons_succ, Nat.reduceAdd]
              clear hf
              go_wp2_with (fail)
              exact RQ.mk rfl ⟨(by first | rfl | (simp [FS33_6]; done) | (simp [FS33_6, *]; done) | (simp [FS33_6, gotV]; done) | (simp [FS33_6, gotV]; omega)), fun h => absurd h (by decide)⟩ (Below.refl _ _)
            | 1, _ =>
              injection ho with ho
              subst ho
              clear hl
              simp only [fillA, List.take, List.drop, put_none, Act.put, List.setIfInBounds_toArray, List.set_cons_zero, List.set_cons_succ, Nat.reduceAdd]
              clear hf
              go_wp2_with (fail)
              exact RQ.mk rfl ⟨(by first | rfl | (simp [FS33_6]; done) | (simp [FS33_6, *]; done) | (simp [FS33_6, gotV]; done) | (simp [FS33_6, gotV]; omega)), fun h => absurd h (by decide)⟩ (Below.refl _ _)
            | 2, _ =>
              injection ho with ho
              subst ho
              clear hl
              simp only [fillA, List.take, List.drop, put_none, Act.put, List.setIfInBounds_toArray, List.set_cons_zero, List.set_cons_succ, Nat.reduceAdd]
              have f0 := hf 0 (by decide) (by kernel_rfl)
              generalize vals 0 = v0 at *
              subst f0
              have f1 := hf 1 (by decide) (by kernel_rfl)
              generalize vals 1 = v1 at *
              subst f1
              clear hf
              go_wp2_with (fail)
              exact RQ.mk rfl ⟨(by first | rfl | (simp [FS33_6]; done) | (simp [FS33_6, *]; done) | (simp [FS33_6, gotV]; done) | (simp [FS33_6, gotV]; omega)), fun h => absurd h (by decide)⟩ (Below.refl _ _)
            | 3, _ =>
              injection ho with ho
              subst ho
              clear hl
              simp only [fillA, List.take, List.drop, put_none, Act.put, List.setIfInBounds_toArray, List.set_cons_zero, List.set_cons_succ, Nat.reduceAdd]
              have f2 := hf 2 (by decide) (by kernel_rfl)
              generalize vals 2 = v2 at *
              subst f2
              clear hf
              have hc1 := cellOf hb1
              have hf1 := frozOf hb1
              have hz1 := sizeOf hb1
              try simp at hz1
              go_wp2_with (fail)
              exact RQ.mk rfl ⟨(by first | rfl | (simp [FS33_6]; done) | (simp [FS33_6, *]; done) | (simp [FS33_6, gotV]; done) | (simp [FS33_6, gotV]; omega)), fun h => absurd h (by decide)⟩ (Below.refl _ _)
            | 4, _ =>
              injection ho with ho
              subst ho
              clear hl
              simp only [fillA, List.take, List.drop, put_none, Act.put, List.setIfInBounds_toArray, List.set_cons_zero, List.set_cons_succ, Nat.reduceAdd]
              clear hf
              go_wp2_with (fail)
              exact RQ.mk rfl ⟨(by first | rfl | (simp [FS33_6]; done) | (simp [FS33_6, *]; done) | (simp [FS33_6, gotV]; done) | (simp [FS33_6, gotV]; omega)), fun h => absurd h (by decide)⟩ (Below.refl _ _)
            | 5, _ =>
              injection ho with ho
              subst ho
              clear hl
              simp only [fillA, List.take, List.drop, put_none, Act.put, List.setIfInBounds_toArray, List.set_cons_zero, List.set_cons_succ, Nat.reduceAdd]
              clear hf
              go_wp2_with (fail)
              exact RQ.mk rfl ⟨(by first | rfl | (simp [FS33_6]; done) | (simp [FS33_6, *]; done) | (simp [FS33_6, gotV]; done) | (simp [FS33_6, gotV]; omega)), fun h => absurd h (by decide)⟩ (Below.refl _ _)
            | 6, _ =>
              injection ho with ho
              subst ho
              clear hl
              simp only [fillA, List.take, List.drop, put_none, Act.put, List.setIfInBounds_toArray, List.set_cons_zero, List.set_cons_succ, Nat.reduceAdd]
              have f4 := hf 4 (by decide) (by kernel_rfl)
              generalize vals 4 = v4 at *
              subst f4
              have f5 := hf 5 (by decide) (by kernel_rfl)
              generalize vals 5 = v5 at *
              subst f5
              clear hf
              go_wp2_with (fail)
              exact RQ.mk rfl ⟨(by first | rfl | (simp [FS33_6]; done) | (simp [FS33_6, *]; done) | (simp [FS33_6, gotV]; done) | (simp [FS33_6, gotV]; omega)), fun h => absurd h (by decide)⟩ (Below.refl _ _)
            | 7, _ =>
              injection ho with ho
              subst ho
              clear hl
              simp only [fillA, List.take, List.drop, put_none, Act.put, List.setIfInBounds_toArray, List.set_cons_zero, List.set_cons_succ, Nat.reduceAdd]
              have f6 := hf 6 (by decide) (by kernel_rfl)
              generalize vals 6 = v6 at *
              subst f6
              clear hf
              have hc1 := cellOf hb1
              have hf1 := frozOf hb1
              have hz1 := sizeOf hb1
              try simp at hz1
              go_wp2_with (fail)
              exact RQ.mk rfl ⟨(by first | rfl | (simp [FS33_6]; done) | (simp [FS33_6, *]; done) | (simp [FS33_6, gotV]; done) | (simp [FS33_6, gotV]; omega)), fun h => absurd h (by decide)⟩ (Below.refl _ _)
            | 8, _ =>
              injection ho with ho
              subst ho
              clear hl
              simp only [fillA, List.take, List.drop, put_none, Act.put, List.setIfInBounds_toArray, List.set_cons_zero, List.set_cons_succ, Nat.reduceAdd]
              have f3 := hf 3 (by decide) (by kernel_rfl)
              generalize vals 3 = v3 at *
              subst f3
              have f7 := hf 7 (by decide) (by kernel_rfl)
              generalize vals 7 = v7 at *
              subst f7
              clear hf
              go_wp2_with (fail)
              exact RQ.mk rfl ⟨(by first | rfl | (simp [FS33_6]; done) | (simp [FS33_6, *]; done) | (simp [FS33_6, gotV]; done) | (simp [FS33_6, gotV]; omega)), fun h => absurd h (by decide)⟩ (Below.refl _ _)
          · intro vals w1 hb1 hf hd
            simp only [fillA, List.take, List.drop, put_none, Act.put, List.setIfInBounds_toArray, List.set_cons_zero, List.set_cons_succ, Nat.reduceAdd]
            clear hd
            have f0 := hf 0 (by decide)
            generalize vals 0 = v0 at *
            subst f0
            have f1 := hf 1 (by decide)
            generalize vals 1 = v1 at *
            subst f1
            have f2 := hf 2 (by decide)
            generalize vals 2 = v2 at *
            subst f2
            have f3 := hf 3 (by decide)
            generalize vals 3 = v3 at *
            subst f3
            have f4 := hf 4 (by decide)
            generalize vals 4 = v4 at *
            subst f4
            have f5 := hf 5 (by decide)
            generalize vals 5 = v5 at *
            subst f5
            have f6 := hf 6 (by decide)
            generalize vals 6 = v6 at *
            subst f6
            have f7 := hf 7 (by decide)
            generalize vals 7 = v7 at *
            subst f7
            have f8 := hf 8 (by decide)
            generalize vals 8 = v8 at *
            subst f8
            clear hf
            have hc1 := cellOf hb1
            have hf1 := frozOf hb1
            have hz1 := sizeOf hb1
            try simp at hz1
            go_wp2_with (fail)
            go_roundw
            case rel =>
              exact ⟨k + 1, by omega, by go_num, by rw [List.take_succ_eq_append_getElem hlt, List.take_succ_eq_append_getElem hlt2, HT.out, ← HX.out, ← HY.out, hxy], (by (repeat' (first | exact Below.refl _ _ | assumption | refine Below.setCell ?_ ?_ _ | refine Below.drew ?_ | refine Below.alloc ?_ ?_ _ | refine Below.trans ?_ (Below.mono (by assumption) ?_) | (simp; done) | (simp; omega) | omega)))⟩
            case measure => simp [intOf]; omega
        · have HD : Hid (decide (xs = ys) = false) := by
            show decide (xs = ys) = false
            rw [decide_eq_false_iff_not]
            intro e
            subst e
            exact hxy (HX.out.trans HY.out.symm)
          go_wp2_with (fail)
          refine wp_region_w (n := 9) [] [] (FS33_6_17 x y bx ox by_ oy k xs.length ys.length cap0 cap1 w) rfl (by kernel_rfl) (fun _ _ d _ _ h => by cases d <;> exact h) ?_ ?_ ?_ ?_ ?_ ?_
          · intro iq
            match iq with
            | 0 | 1 | 2 | 3 | 4 | 5 | 6 | 7 | 8 => exact Stable.const _
            | n + 9 => exact Stable.const _
          · intro iq hi
            exact absurd hi (by simp)
          · intro iq hi
            exact absurd hi (by simp)
          · intro iq o hi hl ho vals w1 hb1 hf
            exact absurd hl (by simp)
          · intro iq o hi hl ho vals w1 hb1 hf
            match iq, hi with
            | 0, _ =>
              injection ho with ho
              subst ho
              clear hl
              simp only [fillA, List.take, List.drop, put_none, Act.put, List.setIfInBounds_toArray, List.set_cons_zero, List.set_cons_succ, Nat.reduceAdd]
              clear hf
              go_wp2_with (fail)
              exact RQ.mk rfl ⟨(by first | rfl | (simp [FS33_6_17]; done) | (simp [FS33_6_17, *]; done) | (simp [FS33_6_17, gotV]; done) | (simp [FS33_6_17, gotV]; omega)), fun h => absurd h (by decide)⟩ (Below.refl _ _)
            | 1, _ =>
              injection ho with ho
              subst ho
              clear hl
              simp only [fillA, List.take, List.drop, put_none, Act.put, List.setIfInBounds_toArray, List.set_cons_zero, List.set_cons_succ, Nat.reduceAdd]
              clear hf
              go_wp2_with (fail)
              exact RQ.mk rfl ⟨(by first | rfl | (simp [FS33_6_17]; done) | (simp [FS33_6_17, *]; done) | (simp [FS33_6_17, gotV]; done) | (simp [FS33_6_17, gotV]; omega)), fun h => absurd h (by decide)⟩ (Below.refl _ _)
            | 2, _ =>
              injection ho with ho
              subst ho
              clear hl
              simp only [fillA, List.take, List.drop, put_none, Act.put, List.setIfInBounds_toArray, List.set_cons_zero, List.set_cons_succ, Nat.reduceAdd]
              have f0 := hf 0 (by decide) (by kernel_rfl)
              generalize vals 0 = v0 at *
              subst f0
              have f1 := hf 1 (by decide) (by kernel_rfl)
              generalize vals 1 = v1 at *
              subst f1
              clear hf
              go_wp2_with (fail)
              exact RQ.mk rfl ⟨(by first | rfl | (simp [FS33_6_17]; done) | (simp [FS33_6_17, *]; done) | (simp [FS33_6_17, gotV]; done) | (simp [FS33_6_17, gotV]; omega)), fun h => absurd h (by decide)⟩ (Below.refl _ _)
            | 3, _ =>
              injection ho with ho
              subst ho
              clear hl
              simp only [fillA, List.take, List.drop, put_none, Act.put, List.setIfInBounds_toArray, List.set_cons_zero, List.set_cons_succ, Nat.reduceAdd]
              have f2 := hf 2 (by decide) (by kernel_rfl)
              generalize vals 2 = v2 at *
              subst f2
              clear hf
              have hc1 := cellOf hb1
              have hf1 := frozOf hb1
              have hz1 := sizeOf hb1
              try simp at hz1
              go_wp2_with (fail)
              exact RQ.mk rfl ⟨(by first | rfl | (simp [FS33_6_17]; done) | (simp [FS33_6_17, *]; done) | (simp [FS33_6_17, gotV]; done) | (simp [FS33_6_17, gotV]; omega)), fun h => absurd h (by decide)⟩ (Below.refl _ _)
            | 4, _ =>
              injection ho with ho
              subst ho
              clear hl
              simp only [fillA, List.take, List.drop, put_none, Act.put, List.setIfInBounds_toArray, List.set_cons_zero, List.set_cons_succ, Nat.reduceAdd]
              clear hf
              go_wp2_with (fail)
              exact RQ.mk rfl ⟨(by first | rfl | (simp [FS33_6_17]; done) | (simp [FS33_6_17, *]; done) | (simp [FS33_6_17, gotV]; done) | (simp [FS33_6_17, gotV]; omega)), fun h => absurd h (by decide)⟩ (Below.refl _ _)
            | 5, _ =>
              injection ho with ho
              subst ho
              clear hl
              simp only [fillA, List.take, List.drop, put_none, Act.put, List.setIfInBounds_toArray, List.set_cons_zero, List.set_cons_succ, Nat.reduceAdd]
              clear hf
              go_wp2_with (fail)
              exact RQ.mk rfl ⟨(by first | rfl | (simp [FS33_6_17]; done) | (simp [FS33_6_17, *]; done) | (simp [FS33_6_17, gotV]; done) | (simp [FS33_6_17, gotV]; omega)), fun h => absurd h (by decide)⟩ (Below.refl _ _)
            | 6, _ =>
              injection ho with ho
              subst ho
              clear hl
              simp only [fillA, List.take, List.drop, put_none, Act.put, List.setIfInBounds_toArray, List.set_cons_zero, List.set_cons_succ, Nat.reduceAdd]
              have f4 := hf 4 (by decide) (by kernel_rfl)
              generalize vals 4 = v4 at *
              subst f4
              have f5 := hf 5 (by decide) (by kernel_rfl)
              generalize vals 5 = v5 at *
              subst f5
              clear hf
              go_wp2_with (fail)
              exact RQ.mk rfl ⟨(by first | rfl | (simp [FS33_6_17]; done) | (simp [FS33_6_17, *]; done) | (simp [FS33_6_17, gotV]; done) | (simp [FS33_6_17, gotV]; omega)), fun h => absurd h (by decide)⟩ (Below.refl _ _)
            | 7, _ =>
              injection ho with ho
              subst ho
              clear hl
              simp only [fillA, List.take, List.drop, put_none, Act.put, List.setIfInBounds_toArray, List.set_cons_zero, List.set_cons_succ, Nat.reduceAdd]
              have f6 := hf 6 (by decide) (by kernel_rfl)
              generalize vals 6 = v6 at *
              subst f6
              clear hf
              have hc1 := cellOf hb1
              have hf1 := frozOf hb1
              have hz1 := sizeOf hb1
              try simp at hz1
              go_wp2_with (fail)
              exact RQ.mk rfl ⟨(by first | rfl | (simp [FS33_6_17]; done) | (simp [FS33_6_17, *]; done) | (simp [FS33_6_17, gotV]; done) | (simp [FS33_6_17, gotV]; omega)), fun h => absurd h (by decide)⟩ (Below.refl _ _)
            | 8, _ =>
              injection ho with ho
              subst ho
              clear hl
              simp only [fillA, List.take, List.drop, put_none, Act.put, List.setIfInBounds_toArray, List.set_cons_zero, List.set_cons_succ, Nat.reduceAdd]
              have f3 := hf 3 (by decide) (by kernel_rfl)
              generalize vals 3 = v3 at *
              subst f3
              have f7 := hf 7 (by decide) (by kernel_rfl)
              generalize vals 7 = v7 at *
              subst f7
              clear hf
              go_wp2_with (fail)
              exact RQ.mk rfl ⟨(by first | rfl | (simp [FS33_6_17]; done) | (simp [FS33_6_17, *]; done) | (simp [FS33_6_17, gotV]; done) | (simp [FS33_6_17, gotV]; omega)), fun h => absurd h (by decide)⟩ (Below.refl _ _)
          · intro vals w1 hb1 hf hd
            simp only [fillA, List.take, List.drop, put_none, Act.put, List.setIfInBounds_toArray, List.set_cons_zero, List.set_cons_succ, Nat.reduceAdd]
            clear hd
            have f0 := hf 0 (by decide)
            generalize vals 0 = v0 at *
            subst f0
            have f1 := hf 1 (by decide)
            generalize vals 1 = v1 at *
            subst f1
            have f2 := hf 2 (by decide)
            generalize vals 2 = v2 at *
            subst f2
            have f3 := hf 3 (by decide)
            generalize vals 3 = v3 at *
            subst f3
            have f4 := hf 4 (by decide)
            generalize vals 4 = v4 at *
            subst f4
            have f5 := hf 5 (by decide)
            generalize vals 5 = v5 at *
            subst f5
            have f6 := hf 6 (by decide)
            generalize vals 6 = v6 at *
            subst f6
            have f7 := hf 7 (by decide)
            generalize vals 7 = v7 at *
            subst f7
            have f8 := hf 8 (by decide)
            generalize vals 8 = v8 at *
            subst f8
            clear hf
            have hc1 := cellOf hb1
            have hf1 := frozOf hb1
            have hz1 := sizeOf hb1
            try simp at hz1
            go_wp2_with (fail)
            go_ret
            exact ⟨ret_bool (by rw [HD.out]), (by (repeat' (first | exact Below.refl _ _ | assumption | refine Below.setCell ?_ ?_ _ | refine Below.drew ?_ | refine Below.alloc ?_ ?_ _ | refine Below.trans ?_ (Below.mono (by assumption) ?_) | (simp; done) | (simp; omega) | omega)))⟩
      · obtain rfl : k = xs.length := by omega
        have HD : Hid (decide (xs = ys) = true) := by
          show decide (xs = ys) = true
          have := HT.out
          rw [List.take_length, H.out, List.take_length] at this
          simp [this]
        go_wp2_with (fail)
        go_ret
        exact ⟨ret_bool (by rw [HD.out]), (by (repeat' (first | exact Below.refl _ _ | assumption | refine Below.setCell ?_ ?_ _ | refine Below.drew ?_ | refine Below.alloc ?_ ?_ _ | refine Below.trans ?_ (Below.mono (by assumption) ?_) | (simp; done) | (simp; omega) | omega)))⟩
  · go_enter Try.func33, Try.ntmps33
    go_wp2_with (fail)
    go_ret
    exact ⟨ret_bool (by simp; intro h; exact hlen (by rw [h])), Below.refl _ _⟩

end Go.Proofs.Ytfipmalomhflgaa
