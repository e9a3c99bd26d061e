import Derived.Test.YteciijnpfapmhaaG7
namespace Go.Proofs.Yteciijnpfapmhaa
set_option linter.unusedSimpArgs false
set_option linter.unusedVariables false
open Go.RowKit

set_option maxHeartbeats 2000000 in
theorem c_laws_markIntervalS (B : Nat) (A : Option Addr) (xs : List (Int × Int)) (cap : Nat) (k0 : Int) (w : World) (h : FreshA cIv 2 50 B w A cap xs) (hn : xs.length ≤ 10000000) (hk0 : 0 ≤ k0 ∧ k0 ≤ 100000000) :
    Calls Try.prog 70 #[.slice A xs.length cap, .int .i64 k0] w fun e w' => e = .returned (.int .i64 (k0 + 2 * xs.length)) ∧ FreshA cIv 2 50 B w' A cap (mkIv xs.length k0) ∧ w.grownBy w' (blkO A) := by
  rcases h with ⟨rfl, rfl, rfl⟩ | ⟨g, rfl, hB, hO⟩
  · go_enter Try.func70, Try.ntmps70
    go_wp2_with (fail)
    go_loopw [1, 5] (fun q i wr => q = .int .i64 k0 ∧ i = .int .i64 0 ∧ wr = w) (fun _ _ _ => 0)
    case atStart => exact ⟨rfl, rfl, rfl⟩
    case round =>
      obtain ⟨rfl, rfl, rfl⟩ := hrel
      go_wp2_with (fail)
      go_ret
      exact ⟨ret_int (by simp), .inl ⟨rfl, rfl, rfl⟩, World.grownBy.refl _ _⟩
  · have hlen : xs.length ≤ cap := by
      obtain ⟨_, _, _, h, _⟩ := hO
      exact h
    have hE := hO.empty
    clear hO
    generalize xs.length = n at *
    go_enter Try.func70, Try.ntmps70
    go_wp2_with (fail)
    go_loopw [1, 5] (fun q i wr => ∃ j : Nat, j ≤ n ∧ i = .int .i64 j ∧ q = .int .i64 (k0 + 2 * (j : Int)) ∧ OwnS cIv 2 50 wr g cap (mkIv j k0) ∧ w.grownBy wr (some g)) (fun _ i _ => n - (intOf i).toNat)
    case atStart => exact ⟨0, Nat.zero_le _, rfl, by simp, hE, World.grownBy.refl _ _⟩
    case round =>
      obtain ⟨j, hj, rfl, rfl, hO, hg⟩ := hrel
      clear hE
      by_cases hlt : j < n
      · have hlo := hO.lt
        obtain ⟨u0, hu0⟩ := hO.cell (j * 2) (by omega)
        obtain ⟨u1, hu1⟩ := hO.cell (j * 2 + 1) (by omega)
        have hfz : ∀ o, wr.frozen? ⟨g, o, none⟩ = false := fun o => hO.frozen o
        have HO := hid hO
        have HG := hid hg
        clear hO hg
        go_wp2_with (fail)
        go_roundw
        case rel =>
          refine ⟨j + 1, by omega, by go_num, by (congr 1; omega), ?_, ?_⟩
          · refine OwnS.pushm (fun _ => rfl) HO.out (mkIv_len _ _) (mkIv_snoc _ _) (by omega) ?_
            simp only [stores, cIv]
          · exact grown_set (grown_set HG.out)
        case measure => simp [intOf]; omega
      · obtain rfl : j = n := by omega
        go_wp2_with (fail)
        go_ret
        exact ⟨rfl, .inr ⟨g, rfl, hB, by simpa [mkIv_len] using hO⟩, hg⟩

set_option maxHeartbeats 2000000 in
theorem c_laws_heldIntervalS (A : Option Addr) (n cap : Nat) (k0 : Int) (w : World) (h : Rds cIv 2 w A (mkIv n k0)) (hn : n ≤ 10000000) (hk0 : 0 ≤ k0 ∧ k0 ≤ 100000000) :
    Calls Try.prog 71 #[.slice A n cap, .int .i64 k0] w fun e w' => e = .returned (.int .i64 (k0 + 2 * n)) ∧ Below w.heap.size w w' := by
  go_enter Try.func71, Try.ntmps71
  go_wp2_with (fail)
  go_loopw [1, 5] (fun q i wr => ∃ j : Nat, j ≤ n ∧ i = .int .i64 j ∧ q = .int .i64 (k0 + 2 * (j : Int)) ∧ Below w.heap.size w wr) (fun _ i _ => n - (intOf i).toNat)
  case atStart => exact ⟨0, Nat.zero_le _, rfl, by simp, Below.refl _ _⟩
  case round =>
    obtain ⟨j, hj, rfl, rfl, hbr⟩ := hrel
    by_cases hlt : j < n
    · have hlm : j < (mkIv n k0).length := by rw [mkIv_len]; exact hlt
      obtain ⟨bx, ox, rfl, hbx, hcx⟩ := h j _ (List.getElem?_eq_getElem hlm)
      rw [mkIv_at n k0 j hlt hlm] at hcx
      have hx0 := hcx 0 _ rfl
      have hx1 := hcx 1 _ rfl
      simp only [Nat.add_zero] at hx0
      clear hcx h
      have hc := cellOf hbr
      go_wp2_with (fail)
      go_roundw
      case rel => exact ⟨j + 1, by omega, by go_num, by (congr 1; omega), hbr⟩
      case measure => simp [intOf]; omega
    · obtain rfl : j = n := by omega
      go_wp2_with (fail)
      go_ret
      exact ⟨rfl, hbr⟩

set_option maxHeartbeats 2000000 in
theorem c_laws_markIntS (B : Nat) (A : Option Addr) (xs : List (Int)) (cap : Nat) (k0 : Int) (w : World) (h : FreshA cIn 1 3 B w A cap xs) (hn : xs.length ≤ 10000000) (hk0 : 0 ≤ k0 ∧ k0 ≤ 100000000) :
    Calls Try.prog 40 #[.slice A xs.length cap, .int .i64 k0] w fun e w' => e = .returned (.int .i64 (k0 + 1 * xs.length)) ∧ FreshA cIn 1 3 B w' A cap (mkIn xs.length k0) ∧ w.grownBy w' (blkO A) := by
  rcases h with ⟨rfl, rfl, rfl⟩ | ⟨g, rfl, hB, hO⟩
  · go_enter Try.func40, Try.ntmps40
    go_wp2_with (fail)
    go_loopw [1, 5] (fun q i wr => q = .int .i64 k0 ∧ i = .int .i64 0 ∧ wr = w) (fun _ _ _ => 0)
    case atStart => exact ⟨rfl, rfl, rfl⟩
    case round =>
      obtain ⟨rfl, rfl, rfl⟩ := hrel
      go_wp2_with (fail)
      go_ret
      exact ⟨ret_int (by simp), .inl ⟨rfl, rfl, rfl⟩, World.grownBy.refl _ _⟩
  · have hlen : xs.length ≤ cap := by
      obtain ⟨_, _, _, h, _⟩ := hO
      exact h
    have hE := hO.empty
    clear hO
    generalize xs.length = n at *
    go_enter Try.func40, Try.ntmps40
    go_wp2_with (fail)
    go_loopw [1, 5] (fun q i wr => ∃ j : Nat, j ≤ n ∧ i = .int .i64 j ∧ q = .int .i64 (k0 + 1 * (j : Int)) ∧ OwnS cIn 1 3 wr g cap (mkIn j k0) ∧ w.grownBy wr (some g)) (fun _ i _ => n - (intOf i).toNat)
    case atStart => exact ⟨0, Nat.zero_le _, rfl, by simp, hE, World.grownBy.refl _ _⟩
    case round =>
      obtain ⟨j, hj, rfl, rfl, hO, hg⟩ := hrel
      clear hE
      by_cases hlt : j < n
      · have hlo := hO.lt
        obtain ⟨u0, hu0⟩ := hO.cell (j) (by omega)
        have hfz : ∀ o, wr.frozen? ⟨g, o, none⟩ = false := fun o => hO.frozen o
        have HO := hid hO
        have HG := hid hg
        clear hO hg
        go_wp2_with (fail)
        go_roundw
        case rel =>
          refine ⟨j + 1, by omega, by go_num, by (congr 1; omega), ?_, ?_⟩
          · refine OwnS.pushm (fun _ => rfl) HO.out (mkIn_len _ _) (mkIn_snoc _ _) (by omega) ?_
            simp only [stores, cIn]
            (try simp only [Nat.mul_one])
            (try (congr 3 <;> omega))
          · exact grown_set HG.out
        case measure => simp [intOf]; omega
      · obtain rfl : j = n := by omega
        go_wp2_with (fail)
        go_ret
        exact ⟨rfl, .inr ⟨g, rfl, hB, by simpa [mkIn_len] using hO⟩, hg⟩

set_option maxHeartbeats 2000000 in
theorem c_laws_heldIntS (A : Option Addr) (n cap : Nat) (k0 : Int) (w : World) (h : Rds cIn 1 w A (mkIn n k0)) (hn : n ≤ 10000000) (hk0 : 0 ≤ k0 ∧ k0 ≤ 100000000) :
    Calls Try.prog 41 #[.slice A n cap, .int .i64 k0] w fun e w' => e = .returned (.int .i64 (k0 + 1 * n)) ∧ Below w.heap.size w w' := by
  go_enter Try.func41, Try.ntmps41
  go_wp2_with (fail)
  go_loopw [1, 5] (fun q i wr => ∃ j : Nat, j ≤ n ∧ i = .int .i64 j ∧ q = .int .i64 (k0 + 1 * (j : Int)) ∧ Below w.heap.size w wr) (fun _ i _ => n - (intOf i).toNat)
  case atStart => exact ⟨0, Nat.zero_le _, rfl, by simp, Below.refl _ _⟩
  case round =>
    obtain ⟨j, hj, rfl, rfl, hbr⟩ := hrel
    by_cases hlt : j < n
    · have hlm : j < (mkIn n k0).length := by rw [mkIn_len]; exact hlt
      obtain ⟨bx, ox, rfl, hbx, hcx⟩ := h j _ (List.getElem?_eq_getElem hlm)
      rw [mkIn_at n k0 j hlt hlm] at hcx
      have hx0 := hcx 0 _ rfl
      simp only [Nat.add_zero, Nat.mul_one] at hx0
      clear hcx h
      have hc := cellOf hbr
      go_wp2_with (fail)
      go_roundw
      case rel => exact ⟨j + 1, by omega, by go_num, by (congr 1; omega), hbr⟩
      case measure => simp [intOf]; omega
    · obtain rfl : j = n := by omega
      go_wp2_with (fail)
      go_ret
      exact ⟨rfl, hbr⟩

end Go.Proofs.Yteciijnpfapmhaa
