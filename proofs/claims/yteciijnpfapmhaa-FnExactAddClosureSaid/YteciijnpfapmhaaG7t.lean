import Derived.Test.YteciijnpfapmhaaG7
namespace Go.Proofs.Yteciijnpfapmhaa
set_option linter.unusedSimpArgs false
set_option linter.unusedVariables false
open Go.RowKit

theorem info_laws_toIntervalS : (Try.prog.info? 50).map (fun i => (i.zero, i.size, i.bytes)) = some (some (.agg #[.int .i64 (0), .int .i64 (0)]), 2, 16) := by kernel_rfl

set_option maxHeartbeats 2000000 in
theorem c_laws_toIntervalS (A : Option Addr) (xs : List (Int × Int)) (cap : Nat) (w : World) (h0 : Rds cIv 2 w A xs) (hn : xs.length ≤ 1048576) :
    Calls Try.prog 51 #[.slice A xs.length cap] w fun e w' => ∃ g, e = .returned (.slice (some ⟨g, 0, none⟩) xs.length xs.length) ∧ w.heap.size ≤ g ∧ OwnS cIv 2 50 w' g xs.length xs ∧ Below w.heap.size w w' := by
  obtain ⟨i0, hi0, hz0, hz1, hz2⟩ := info_parts info_laws_toIntervalS
  have hmk := fun w => make_run (P := Try.prog) 27 50 i0 _ Try.underlying27 hi0 hz0 xs.length (by rw [hz2]; omega) (by omega) w
  go_enter Try.func51, Try.ntmps51
  go_wp2_with (fail)
  go_loopw [4] (fun i wr => ∃ k : Nat, k ≤ xs.length ∧ i = .int .i64 k ∧ OwnS cIv 2 50 wr w.heap.size xs.length (xs.take k) ∧ Below w.heap.size w wr) (fun i _ => xs.length - (intOf i).toNat)
  case atStart =>
    refine ⟨0, Nat.zero_le _, rfl, ?_, (Below.refl _ _).alloc (Nat.le_refl _) _⟩
    exact ⟨_, heap_alloc_new _ _, by rw [size_madeCells]; (try rw [hz1]), Nat.zero_le _, by unfold maxLen; omega, fun i x hx => by simp at hx⟩
  case round =>
    obtain ⟨k, hk, rfl, hO, hbr⟩ := hrel
    clear hmk
    by_cases hlt : k < xs.length
    · obtain ⟨bx, ox, rfl, hbx, hcx⟩ := h0 k xs[k] (List.getElem?_eq_getElem hlt)
      have hx0 := hcx 0 _ rfl
      have hx1 := hcx 1 _ rfl
      simp only [Nat.add_zero] at hx0
      clear hcx h0
      have hc := cellOf hbr
      have hf := frozOf hbr
      have hz := sizeOf hbr
      have hlo := hO.lt
      obtain ⟨u0, hu0⟩ := hO.cell (k * 2) (by omega)
      have hu0' : far wr w.heap.size (k * 2) = some u0 := hu0
      clear hu0
      obtain ⟨u1, hu1⟩ := hO.cell (k * 2 + 1) (by omega)
      have hu1' : far wr w.heap.size (k * 2 + 1) = some u1 := hu1
      clear hu1
      have hfz : ∀ o, farz wr w.heap.size o = false := fun o => hO.frozen o
      have HO := hid hO
      clear hO
      go_wp2_with (go_at_call 34; refine (c_laws_toInterval _ _ _).mono ?_; rintro e w2 ⟨rfl, hb2⟩; have hc2 := cellOf hb2; have hf2 := frozOf hb2; have hz2 := sizeOf hb2)
      go_roundw
      case rel => exact ⟨k + 1, by omega, by go_num, OwnS.pushk (fun _ => rfl) (HO.out.below hb2) hlt (Nat.le_refl _) rfl, by (repeat' (first | exact Below.refl _ _ | assumption | refine Below.setCell ?_ ?_ _ | refine Below.drew ?_ | refine Below.alloc ?_ ?_ _ | refine Below.trans ?_ (Below.mono (by assumption) ?_) | (simp; done) | (simp; omega) | omega))⟩
      case measure => simp [intOf]; omega
    · obtain rfl : k = xs.length := by omega
      rw [List.take_length] at hO
      go_wp2_with (fail)
      go_ret
      exact ⟨_, rfl, Nat.le_refl _, hO, hbr⟩

theorem info_laws_toIntS : (Try.prog.info? 3).map (fun i => (i.zero, i.size, i.bytes)) = some (some (.int .i64 0), 1, 8) := by kernel_rfl

set_option maxHeartbeats 2000000 in
theorem c_laws_toIntS (A : Option Addr) (xs : List (Int)) (cap : Nat) (w : World) (h0 : Rds cIn 1 w A xs) (hn : xs.length ≤ 1048576) :
    Calls Try.prog 26 #[.slice A xs.length cap] w fun e w' => ∃ g, e = .returned (.slice (some ⟨g, 0, none⟩) xs.length xs.length) ∧ w.heap.size ≤ g ∧ OwnS cIn 1 3 w' g xs.length xs ∧ Below w.heap.size w w' := by
  obtain ⟨i0, hi0, hz0, hz1, hz2⟩ := info_parts info_laws_toIntS
  have hmk := fun w => make_run (P := Try.prog) 40 3 i0 _ Try.underlying40 hi0 hz0 xs.length (by rw [hz2]; omega) (by omega) w
  go_enter Try.func26, Try.ntmps26
  go_wp2_with (fail)
  go_loopw [4] (fun i wr => ∃ k : Nat, k ≤ xs.length ∧ i = .int .i64 k ∧ OwnS cIn 1 3 wr w.heap.size xs.length (xs.take k) ∧ Below w.heap.size w wr) (fun i _ => xs.length - (intOf i).toNat)
  case atStart =>
    refine ⟨0, Nat.zero_le _, rfl, ?_, (Below.refl _ _).alloc (Nat.le_refl _) _⟩
    exact ⟨_, heap_alloc_new _ _, by rw [size_madeCells]; (try rw [hz1]); omega, Nat.zero_le _, by unfold maxLen; omega, fun i x hx => by simp at hx⟩
  case round =>
    obtain ⟨k, hk, rfl, hO, hbr⟩ := hrel
    clear hmk
    by_cases hlt : k < xs.length
    · obtain ⟨bx, ox, rfl, hbx, hcx⟩ := h0 k xs[k] (List.getElem?_eq_getElem hlt)
      have hx0 := hcx 0 _ rfl
      simp only [Nat.add_zero, Nat.mul_one] at hx0
      clear hcx h0
      have hc := cellOf hbr
      have hf := frozOf hbr
      have hz := sizeOf hbr
      have hlo := hO.lt
      obtain ⟨u0, hu0⟩ := hO.cell (k) (by omega)
      have hu0' : far wr w.heap.size (k) = some u0 := hu0
      clear hu0
      have hfz : ∀ o, farz wr w.heap.size o = false := fun o => hO.frozen o
      have HO := hid hO
      clear hO
      go_wp2_with (fail)
      go_roundw
      case rel => exact ⟨k + 1, by omega, by go_num, OwnS.pushk (fun _ => rfl) (HO.out) hlt (Nat.le_refl _) (by simp [stores, cIn]), by (repeat' (first | exact Below.refl _ _ | assumption | refine Below.setCell ?_ ?_ _ | refine Below.drew ?_ | refine Below.alloc ?_ ?_ _ | refine Below.trans ?_ (Below.mono (by assumption) ?_) | (simp; done) | (simp; omega) | omega))⟩
      case measure => simp [intOf]; omega
    · obtain rfl : k = xs.length := by omega
      rw [List.take_length] at hO
      go_wp2_with (fail)
      go_ret
      exact ⟨_, rfl, Nat.le_refl _, hO, hbr⟩

end Go.Proofs.Yteciijnpfapmhaa
