import Derived.Test.YtipipicfkjigdaaG5
namespace Go.Proofs.Ytipipicfkjigdaa
set_option linter.unusedSimpArgs false
set_option linter.unusedVariables false
open Go.RowKit

set_option maxHeartbeats 2000000 in
theorem c_laws_markTugJobS (B : Nat) (A : Option Addr) (xs : List (Int × Int × Int × Int × Int)) (cap : Nat) (k0 : Int) (w : World) (h : FreshA cJob 5 40 B w A cap xs) (hn : xs.length ≤ 10000000) (hk0 : 0 ≤ k0 ∧ k0 ≤ 100000000) :
    Calls Try.prog 38 #[.slice A xs.length cap, .int .i64 k0] w fun e w' => e = .returned (.int .i64 (k0 + 5 * xs.length)) ∧ FreshA cJob 5 40 B w' A cap (mkJob xs.length k0) ∧ w.grownBy w' (blkO A) := by
  rcases h with ⟨rfl, rfl, rfl⟩ | ⟨g, rfl, hB, hO⟩
  · go_enter Try.func38, Try.ntmps38
    go_wp2_with (fail)
    go_loopw [1, 5] (fun q i wr => q = .int .i64 k0 ∧ i = .int .i64 0 ∧ wr = w) (fun _ _ _ => 0)
    case atStart => exact ⟨rfl, rfl, rfl⟩
    case round =>
      obtain ⟨rfl, rfl, rfl⟩ := hrel
      go_wp2_with (fail)
      go_ret
      exact ⟨ret_int (by simp), .inl ⟨rfl, rfl, rfl⟩, World.grownBy.refl _ _⟩
  · have hlen : xs.length ≤ cap := by
      obtain ⟨_, _, _, h, _⟩ := hO
      exact h
    have hE := hO.empty
    clear hO
    generalize xs.length = n at *
    go_enter Try.func38, Try.ntmps38
    go_wp2_with (fail)
    go_loopw [1, 5] (fun q i wr => ∃ j : Nat, j ≤ n ∧ i = .int .i64 j ∧ q = .int .i64 (k0 + 5 * (j : Int)) ∧ OwnS cJob 5 40 wr g cap (mkJob j k0) ∧ w.grownBy wr (some g)) (fun _ i _ => n - (intOf i).toNat)
    case atStart => exact ⟨0, Nat.zero_le _, rfl, by simp, hE, World.grownBy.refl _ _⟩
    case round =>
      obtain ⟨j, hj, rfl, rfl, hO, hg⟩ := hrel
      clear hE
      by_cases hlt : j < n
      · have hlo := hO.lt
        obtain ⟨u0, hu0⟩ := hO.cell (j * 5) (by omega)
        obtain ⟨u1, hu1⟩ := hO.cell (j * 5 + 1) (by omega)
        obtain ⟨u2, hu2⟩ := hO.cell (j * 5 + 2) (by omega)
        obtain ⟨u3, hu3⟩ := hO.cell (j * 5 + 3) (by omega)
        obtain ⟨u4, hu4⟩ := hO.cell (j * 5 + 4) (by omega)
        have hfz : ∀ o, wr.frozen? ⟨g, o, none⟩ = false := fun o => hO.frozen o
        have HO := hid hO
        have HG := hid hg
        clear hO hg
        go_wp2_with (fail)
        go_roundw
        case rel =>
          refine ⟨j + 1, by omega, by go_num, by (congr 1; omega), ?_, ?_⟩
          · refine OwnS.pushm (fun _ => rfl) HO.out (mkJob_len _ _) (mkJob_snoc _ _) (by omega) ?_
            simp only [stores, cJob]
            simp only [Nat.add_assoc, Int.add_assoc, Nat.reduceAdd, Int.reduceAdd]
          · exact grown_set (grown_set (grown_set (grown_set (grown_set HG.out))))
        case measure => simp [intOf]; omega
      · obtain rfl : j = n := by omega
        go_wp2_with (fail)
        go_ret
        exact ⟨rfl, .inr ⟨g, rfl, hB, by simpa [mkJob_len] using hO⟩, hg⟩

end Go.Proofs.Ytipipicfkjigdaa
