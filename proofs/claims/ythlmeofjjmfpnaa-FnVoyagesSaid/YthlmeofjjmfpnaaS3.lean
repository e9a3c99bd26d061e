import Derived.Test.YthlmeofjjmfpnaaS1
namespace Go.Proofs.Ythlmeofjjmfpnaa
set_option linter.unusedSimpArgs false
set_option linter.unusedVariables false
open Go.RowKit

theorem info_laws_toLegS : (Try.prog.info? 39).map (fun i => (i.zero, i.size, i.bytes)) = some (some (.agg #[.int .i64 (0), .int .i64 (0)]), 2, 16) := by kernel_rfl

set_option maxHeartbeats 2000000 in
theorem c_laws_toLegS (A : Option Addr) (xs : List (Int × Int)) (cap : Nat) (w : World) (h0 : Rds cLeg 2 w A xs) (hn : xs.length ≤ 1048576) :
    Calls Try.prog 34 #[.slice A xs.length cap] w fun e w' => ∃ g, e = .returned (.slice (some ⟨g, 0, none⟩) xs.length xs.length) ∧ w.heap.size ≤ g ∧ OwnS cLeg 2 39 w' g xs.length xs ∧ Below w.heap.size w w' := by
  obtain ⟨i0, hi0, hz0, hz1, hz2⟩ := info_parts info_laws_toLegS
  have hmk := fun w => make_run (P := Try.prog) 45 39 i0 _ Try.underlying45 hi0 hz0 xs.length (by rw [hz2]; omega) (by omega) w
  go_enter Try.func34, Try.ntmps34
  go_wp2_with (fail)
  go_loopw [4] (fun i wr => ∃ k : Nat, k ≤ xs.length ∧ i = .int .i64 k ∧ OwnS cLeg 2 39 wr w.heap.size xs.length (xs.take k) ∧ Below w.heap.size w wr) (fun i _ => xs.length - (intOf i).toNat)
  case atStart =>
    refine ⟨0, Nat.zero_le _, rfl, ?_, (Below.refl _ _).alloc (Nat.le_refl _) _⟩
    exact ⟨_, heap_alloc_new _ _, by rw [size_madeCells]; (try rw [hz1]), Nat.zero_le _, by unfold maxLen; omega, fun i x hx => by simp at hx⟩
  case round =>
    obtain ⟨k, hk, rfl, hO, hbr⟩ := hrel
    clear hmk
    by_cases hlt : k < xs.length
    · obtain ⟨bx, ox, rfl, hbx, hcx⟩ := h0 k xs[k] (List.getElem?_eq_getElem hlt)
      have hx0 := hcx 0 _ rfl
      have hx1 := hcx 1 _ rfl
      simp only [Nat.add_zero] at hx0
      clear hcx h0
      have hc := cellOf hbr
      have hf := frozOf hbr
      have hz := sizeOf hbr
      have hlo := hO.lt
      obtain ⟨u0, hu0⟩ := hO.cell (k * 2) (by omega)
      have hu0' : far wr w.heap.size (k * 2) = some u0 := hu0
      clear hu0
      obtain ⟨u1, hu1⟩ := hO.cell (k * 2 + 1) (by omega)
      have hu1' : far wr w.heap.size (k * 2 + 1) = some u1 := hu1
      clear hu1
      have hfz : ∀ o, farz wr w.heap.size o = false := fun o => hO.frozen o
      have HO := hid hO
      clear hO
      go_wp2_with (go_at_call 26; refine (c_laws_toLeg _ _ _).mono ?_; rintro e w2 ⟨rfl, hb2⟩; have hc2 := cellOf hb2; have hf2 := frozOf hb2; have hz2 := sizeOf hb2)
      go_roundw
      case rel => exact ⟨k + 1, by omega, by go_num, OwnS.pushk (fun _ => rfl) (HO.out.below hb2) hlt (Nat.le_refl _) rfl, by (repeat' (first | exact Below.refl _ _ | assumption | refine Below.setCell ?_ ?_ _ | refine Below.drew ?_ | refine Below.alloc ?_ ?_ _ | refine Below.trans ?_ (Below.mono (by assumption) ?_) | (simp; done) | (simp; omega) | omega))⟩
      case measure => simp [intOf]; omega
    · obtain rfl : k = xs.length := by omega
      rw [List.take_length] at hO
      go_wp2_with (fail)
      go_ret
      exact ⟨_, rfl, Nat.le_refl _, hO, hbr⟩

set_option maxHeartbeats 2000000 in
theorem c_laws_markLegS (B : Nat) (A : Option Addr) (xs : List (Int × Int)) (cap : Nat) (k0 : Int) (w : World) (h : FreshA cLeg 2 39 B w A cap xs) (hn : xs.length ≤ 10000000) (hk0 : 0 ≤ k0 ∧ k0 ≤ 100000000) :
    Calls Try.prog 42 #[.slice A xs.length cap, .int .i64 k0] w fun e w' => e = .returned (.int .i64 (k0 + 2 * xs.length)) ∧ FreshA cLeg 2 39 B w' A cap (mkLeg xs.length k0) ∧ w.grownBy w' (blkO A) := by
  rcases h with ⟨rfl, rfl, rfl⟩ | ⟨g, rfl, hB, hO⟩
  · go_enter Try.func42, Try.ntmps42
    go_wp2_with (fail)
    go_loopw [1, 5] (fun q i wr => q = .int .i64 k0 ∧ i = .int .i64 0 ∧ wr = w) (fun _ _ _ => 0)
    case atStart => exact ⟨rfl, rfl, rfl⟩
    case round =>
      obtain ⟨rfl, rfl, rfl⟩ := hrel
      go_wp2_with (fail)
      go_ret
      exact ⟨ret_int (by simp), .inl ⟨rfl, rfl, rfl⟩, World.grownBy.refl _ _⟩
  · have hlen : xs.length ≤ cap := by
      obtain ⟨_, _, _, h, _⟩ := hO
      exact h
    have hE := hO.empty
    clear hO
    generalize xs.length = n at *
    go_enter Try.func42, Try.ntmps42
    go_wp2_with (fail)
    go_loopw [1, 5] (fun q i wr => ∃ j : Nat, j ≤ n ∧ i = .int .i64 j ∧ q = .int .i64 (k0 + 2 * (j : Int)) ∧ OwnS cLeg 2 39 wr g cap (mkLeg j k0) ∧ w.grownBy wr (some g)) (fun _ i _ => n - (intOf i).toNat)
    case atStart => exact ⟨0, Nat.zero_le _, rfl, by simp, hE, World.grownBy.refl _ _⟩
    case round =>
      obtain ⟨j, hj, rfl, rfl, hO, hg⟩ := hrel
      clear hE
      by_cases hlt : j < n
      · have hlo := hO.lt
        obtain ⟨u0, hu0⟩ := hO.cell (j * 2) (by omega)
        obtain ⟨u1, hu1⟩ := hO.cell (j * 2 + 1) (by omega)
        have hfz : ∀ o, wr.frozen? ⟨g, o, none⟩ = false := fun o => hO.frozen o
        have HO := hid hO
        have HG := hid hg
        clear hO hg
        go_wp2_with (fail)
        go_roundw
        case rel =>
          refine ⟨j + 1, by omega, by go_num, by (congr 1; omega), ?_, ?_⟩
          · refine OwnS.pushm (fun _ => rfl) HO.out (mkLeg_len _ _) (mkLeg_snoc _ _) (by omega) ?_
            simp only [stores, cLeg]
          · exact grown_set (grown_set HG.out)
        case measure => simp [intOf]; omega
      · obtain rfl : j = n := by omega
        go_wp2_with (fail)
        go_ret
        exact ⟨rfl, .inr ⟨g, rfl, hB, by simpa [mkLeg_len] using hO⟩, hg⟩

set_option maxHeartbeats 2000000 in
theorem c_laws_markIntervalS (B : Nat) (A : Option Addr) (xs : List (Int × Int)) (cap : Nat) (k0 : Int) (w : World) (h : FreshA cIv 2 25 B w A cap xs) (hn : xs.length ≤ 10000000) (hk0 : 0 ≤ k0 ∧ k0 ≤ 100000000) :
    Calls Try.prog 43 #[.slice A xs.length cap, .int .i64 k0] w fun e w' => e = .returned (.int .i64 (k0 + 2 * xs.length)) ∧ FreshA cIv 2 25 B w' A cap (mkIv xs.length k0) ∧ w.grownBy w' (blkO A) := by
  rcases h with ⟨rfl, rfl, rfl⟩ | ⟨g, rfl, hB, hO⟩
  · go_enter Try.func43, Try.ntmps43
    go_wp2_with (fail)
    go_loopw [1, 5] (fun q i wr => q = .int .i64 k0 ∧ i = .int .i64 0 ∧ wr = w) (fun _ _ _ => 0)
    case atStart => exact ⟨rfl, rfl, rfl⟩
    case round =>
      obtain ⟨rfl, rfl, rfl⟩ := hrel
      go_wp2_with (fail)
      go_ret
      exact ⟨ret_int (by simp), .inl ⟨rfl, rfl, rfl⟩, World.grownBy.refl _ _⟩
  · have hlen : xs.length ≤ cap := by
      obtain ⟨_, _, _, h, _⟩ := hO
      exact h
    have hE := hO.empty
    clear hO
    generalize xs.length = n at *
    go_enter Try.func43, Try.ntmps43
    go_wp2_with (fail)
    go_loopw [1, 5] (fun q i wr => ∃ j : Nat, j ≤ n ∧ i = .int .i64 j ∧ q = .int .i64 (k0 + 2 * (j : Int)) ∧ OwnS cIv 2 25 wr g cap (mkIv j k0) ∧ w.grownBy wr (some g)) (fun _ i _ => n - (intOf i).toNat)
    case atStart => exact ⟨0, Nat.zero_le _, rfl, by simp, hE, World.grownBy.refl _ _⟩
    case round =>
      obtain ⟨j, hj, rfl, rfl, hO, hg⟩ := hrel
      clear hE
      by_cases hlt : j < n
      · have hlo := hO.lt
        obtain ⟨u0, hu0⟩ := hO.cell (j * 2) (by omega)
        obtain ⟨u1, hu1⟩ := hO.cell (j * 2 + 1) (by omega)
        have hfz : ∀ o, wr.frozen? ⟨g, o, none⟩ = false := fun o => hO.frozen o
        have HO := hid hO
        have HG := hid hg
        clear hO hg
        go_wp2_with (fail)
        go_roundw
        case rel =>
          refine ⟨j + 1, by omega, by go_num, by (congr 1; omega), ?_, ?_⟩
          · refine OwnS.pushm (fun _ => rfl) HO.out (mkIv_len _ _) (mkIv_snoc _ _) (by omega) ?_
            simp only [stores, cIv]
          · exact grown_set (grown_set HG.out)
        case measure => simp [intOf]; omega
      · obtain rfl : j = n := by omega
        go_wp2_with (fail)
        go_ret
        exact ⟨rfl, .inr ⟨g, rfl, hB, by simpa [mkIv_len] using hO⟩, hg⟩

set_option maxHeartbeats 2000000 in
theorem c_laws_heldIntervalS (A : Option Addr) (n cap : Nat) (k0 : Int) (w : World) (h : Rds cIv 2 w A (mkIv n k0)) (hn : n ≤ 10000000) (hk0 : 0 ≤ k0 ∧ k0 ≤ 100000000) :
    Calls Try.prog 44 #[.slice A n cap, .int .i64 k0] w fun e w' => e = .returned (.int .i64 (k0 + 2 * n)) ∧ Below w.heap.size w w' := by
  go_enter Try.func44, Try.ntmps44
  go_wp2_with (fail)
  go_loopw [1, 5] (fun q i wr => ∃ j : Nat, j ≤ n ∧ i = .int .i64 j ∧ q = .int .i64 (k0 + 2 * (j : Int)) ∧ Below w.heap.size w wr) (fun _ i _ => n - (intOf i).toNat)
  case atStart => exact ⟨0, Nat.zero_le _, rfl, by simp, Below.refl _ _⟩
  case round =>
    obtain ⟨j, hj, rfl, rfl, hbr⟩ := hrel
    by_cases hlt : j < n
    · have hlm : j < (mkIv n k0).length := by rw [mkIv_len]; exact hlt
      obtain ⟨bx, ox, rfl, hbx, hcx⟩ := h j _ (List.getElem?_eq_getElem hlm)
      rw [mkIv_at n k0 j hlt hlm] at hcx
      have hx0 := hcx 0 _ rfl
      have hx1 := hcx 1 _ rfl
      simp only [Nat.add_zero] at hx0
      clear hcx h
      have hc := cellOf hbr
      go_wp2_with (fail)
      go_roundw
      case rel => exact ⟨j + 1, by omega, by go_num, by (congr 1; omega), hbr⟩
      case measure => simp [intOf]; omega
    · obtain rfl : j = n := by omega
      go_wp2_with (fail)
      go_ret
      exact ⟨rfl, hbr⟩

end Go.Proofs.Ythlmeofjjmfpnaa
