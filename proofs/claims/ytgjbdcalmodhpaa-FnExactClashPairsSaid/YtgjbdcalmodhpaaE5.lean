import Derived.Test.YtgjbdcalmodhpaaE0
namespace Go.Proofs.Ytgjbdcalmodhpaa
set_option linter.unusedSimpArgs false
set_option linter.unusedVariables false
open Go.RowKit

set_option maxHeartbeats 2000000 in
theorem c_laws_markIntA2S (B : Nat) (A : Option Addr) (xs : List (Int × Int)) (cap : Nat) (k0 : Int) (w : World) (h : FreshA cPr 2 65 B w A cap xs) (hn : xs.length ≤ 10000000) (hk0 : 0 ≤ k0 ∧ k0 ≤ 100000000) :
    Calls Try.prog 31 #[.slice A xs.length cap, .int .i64 k0] w fun e w' => e = .returned (.int .i64 (k0 + 2 * xs.length)) ∧ FreshA cPr 2 65 B w' A cap (mkPr xs.length k0) ∧ w.grownBy w' (blkO A) := by
  rcases h with ⟨rfl, rfl, rfl⟩ | ⟨g, rfl, hB, hO⟩
  · go_enter Try.func31, Try.ntmps31
    go_wp2_with (fail)
    go_loopw [1, 5] (fun q i wr => q = .int .i64 k0 ∧ i = .int .i64 0 ∧ wr = w) (fun _ _ _ => 0)
    case atStart => exact ⟨rfl, rfl, rfl⟩
    case round =>
      obtain ⟨rfl, rfl, rfl⟩ := hrel
      go_wp2_with (fail)
      go_ret
      exact ⟨ret_int (by simp), .inl ⟨rfl, rfl, rfl⟩, World.grownBy.refl _ _⟩
  · have hlen : xs.length ≤ cap := by
      obtain ⟨_, _, _, h, _⟩ := hO
      exact h
    have hE := hO.empty
    clear hO
    generalize xs.length = n at *
    go_enter Try.func31, Try.ntmps31
    go_wp2_with (fail)
    go_loopw [1, 5] (fun q i wr => ∃ j : Nat, j ≤ n ∧ i = .int .i64 j ∧ q = .int .i64 (k0 + 2 * (j : Int)) ∧ OwnS cPr 2 65 wr g cap (mkPr j k0) ∧ w.grownBy wr (some g)) (fun _ i _ => n - (intOf i).toNat)
    case atStart => exact ⟨0, Nat.zero_le _, rfl, by simp, hE, World.grownBy.refl _ _⟩
    case round =>
      obtain ⟨j, hj, rfl, rfl, hO, hg⟩ := hrel
      clear hE
      by_cases hlt : j < n
      · have hlo := hO.lt
        obtain ⟨u0, hu0⟩ := hO.cell (j * 2) (by omega)
        obtain ⟨u1, hu1⟩ := hO.cell (j * 2 + 1) (by omega)
        have hfz : ∀ o, wr.frozen? ⟨g, o, none⟩ = false := fun o => hO.frozen o
        have HO := hid hO
        have HG := hid hg
        clear hO hg
        go_wp2_with (fail)
        go_loopw [1, 6] (fun q i wv => (i = .int .i64 0 ∧ q = .int .i64 (k0 + 2 * (j : Int)) ∧ wv = wr) ∨ (i = .int .i64 1 ∧ q = .int .i64 (k0 + 2 * (j : Int) + 1) ∧ wv = wr.setCell ⟨g, j * 2, none⟩ (.int .i64 (k0 + 2 * (j : Int)))) ∨ (i = .int .i64 2 ∧ q = .int .i64 (k0 + 2 * (j : Int) + 2) ∧ wv = (wr.setCell ⟨g, j * 2, none⟩ (.int .i64 (k0 + 2 * (j : Int)))).setCell ⟨g, j * 2 + 1, none⟩ (.int .i64 (k0 + 2 * (j : Int) + 1)))) (fun _ i _ => 2 - (intOf i).toNat)
        case atStart => exact .inl ⟨rfl, rfl, rfl⟩
        case round =>
          rcases hrel with ⟨rfl, rfl, rfl⟩ | ⟨rfl, rfl, rfl⟩ | ⟨rfl, rfl, rfl⟩
          · go_wp2_with (fail)
            go_roundw
            case rel => exact .inr (.inl ⟨by go_num, by go_num, (by first | trivial | rfl)⟩)
            case measure => simp [intOf]
          · go_wp2_with (fail)
            go_roundw
            case rel => exact .inr (.inr ⟨by go_num, by (congr 1; omega), (by first | trivial | rfl)⟩)
            case measure => simp [intOf]
          · go_wp2_with (fail)
            go_roundw
            case rel =>
              refine ⟨j + 1, by omega, by go_num, by (congr 1; omega), ?_, ?_⟩
              · exact OwnS.pushm (fun _ => rfl) HO.out (mkPr_len _ _) (mkPr_snoc _ _) (by omega) rfl
              · exact grown_set (grown_set HG.out)
            case measure => simp [intOf]; omega
      · obtain rfl : j = n := by omega
        go_wp2_with (fail)
        go_ret
        exact ⟨rfl, .inr ⟨g, rfl, hB, by simpa [mkPr_len] using hO⟩, hg⟩
set_option maxHeartbeats 2000000 in
theorem c_laws_heldIntA2S (A : Option Addr) (n cap : Nat) (k0 : Int) (w : World) (h : Rds cPr 2 w A (mkPr n k0)) (hn : n ≤ 10000000) (hk0 : 0 ≤ k0 ∧ k0 ≤ 100000000) :
    Calls Try.prog 32 #[.slice A n cap, .int .i64 k0] w fun e w' => e = .returned (.int .i64 (k0 + 2 * n)) ∧ Below w.heap.size w w' := by
  go_enter Try.func32, Try.ntmps32
  go_wp2_with (fail)
  go_loopw [1, 5] (fun q i wr => ∃ j : Nat, j ≤ n ∧ i = .int .i64 j ∧ q = .int .i64 (k0 + 2 * (j : Int)) ∧ Below w.heap.size w wr) (fun _ i _ => n - (intOf i).toNat)
  case atStart => exact ⟨0, Nat.zero_le _, rfl, by simp, Below.refl _ _⟩
  case round =>
    obtain ⟨j, hj, rfl, rfl, hbr⟩ := hrel
    by_cases hlt : j < n
    · have hlm : j < (mkPr n k0).length := by rw [mkPr_len]; exact hlt
      obtain ⟨bx, ox, rfl, hbx, hcx⟩ := h j _ (List.getElem?_eq_getElem hlm)
      rw [mkPr_at n k0 j hlt hlm] at hcx
      have hx0 := hcx 0 _ rfl
      have hx1 := hcx 1 _ rfl
      simp only [Nat.add_zero] at hx0
      clear hcx h
      have hc := cellOf hbr
      go_wp2_with (fail)
      go_loopw [1, 6] (fun q i wv => wv = wr ∧ ((i = .int .i64 0 ∧ q = .int .i64 (k0 + 2 * (j : Int))) ∨ (i = .int .i64 1 ∧ q = .int .i64 (k0 + 2 * (j : Int) + 1)) ∨ (i = .int .i64 2 ∧ q = .int .i64 (k0 + 2 * (j : Int) + 2)))) (fun _ i _ => 2 - (intOf i).toNat)
      case atStart => exact ⟨rfl, .inl ⟨rfl, rfl⟩⟩
      case round =>
        obtain ⟨rfl, hrel⟩ := hrel
        rcases hrel with ⟨rfl, rfl⟩ | ⟨rfl, rfl⟩ | ⟨rfl, rfl⟩
        · go_wp2_with (fail)
          go_roundw
          case rel => exact ⟨(by first | trivial | rfl), .inr (.inl ⟨by go_num, by go_num⟩)⟩
          case measure => simp [intOf]
        · go_wp2_with (fail)
          go_roundw
          case rel => exact ⟨(by first | trivial | rfl), .inr (.inr ⟨by go_num, by (congr 1; omega)⟩)⟩
          case measure => simp [intOf]
        · go_wp2_with (fail)
          go_roundw
          case rel => exact ⟨j + 1, by omega, by go_num, by (congr 1; omega), hbr⟩
          case measure => simp [intOf]; omega
    · obtain rfl : j = n := by omega
      go_wp2_with (fail)
      go_ret
      exact ⟨rfl, hbr⟩

end Go.Proofs.Ytgjbdcalmodhpaa
