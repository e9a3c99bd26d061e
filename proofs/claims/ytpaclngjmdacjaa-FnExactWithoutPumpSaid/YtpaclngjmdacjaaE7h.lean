import Derived.Test.YtpaclngjmdacjaaE7n
import Derived.Test.YtpaclngjmdacjaaW0
namespace Go.Proofs.Ytpaclngjmdacjaa
set_option linter.unusedSimpArgs false
set_option linter.unusedVariables false
open Go.RowKit

set_option maxHeartbeats 2000000 in
theorem c_laws_heldPumpS (A : Option Addr) (n cap : Nat) (k0 : Int) (w : World) (h : Rds cPu 3 w A (mkPu n k0)) (hn : n ≤ 10000000) (hk0 : 0 ≤ k0 ∧ k0 ≤ 100000000) :
    Calls Try.prog 65 #[.slice A n cap, .int .i64 k0] w fun e w' => e = .returned (.int .i64 (k0 + 3 * n)) ∧ Below w.heap.size w w' := by
  go_enter Try.func65, Try.ntmps65
  go_wp2_with (fail)
  go_loopw [1, 5] (fun q i wr => ∃ j : Nat, j ≤ n ∧ i = .int .i64 j ∧ q = .int .i64 (k0 + 3 * (j : Int)) ∧ Below w.heap.size w wr) (fun _ i _ => n - (intOf i).toNat)
  case atStart => exact ⟨0, Nat.zero_le _, rfl, by simp, Below.refl _ _⟩
  case round =>
    obtain ⟨j, hj, rfl, rfl, hbr⟩ := hrel
    by_cases hlt : j < n
    · have hlm : j < (mkPu n k0).length := by rw [mkPu_len]; exact hlt
      obtain ⟨bx, ox, rfl, hbx, hcx⟩ := h j _ (List.getElem?_eq_getElem hlm)
      rw [mkPu_at n k0 j hlt hlm] at hcx
      have hx0 := hcx 0 _ rfl
      have hx1 := hcx 1 _ rfl
      have hx2 := hcx 2 _ rfl
      simp only [Nat.add_zero] at hx0
      clear hcx h
      have hc := cellOf hbr
      go_wp2_with (fail)
      go_roundw
      case rel => exact ⟨j + 1, by omega, by go_num, by (congr 1; omega), hbr⟩
      case measure => simp [intOf]; omega
    · obtain rfl : j = n := by omega
      go_wp2_with (fail)
      go_ret
      exact ⟨rfl, hbr⟩

set_option maxHeartbeats 2000000 in
theorem c_laws_heldPumpTask (l u v : Int) (A : Option Addr) (n capf : Nat) (A2 : Option Addr) (m capq : Nat) (k0 : Int) (w : World) (h1 : Rds cIn 1 w A (mkIn n k0)) (h2 : Rds cPu 3 w A2 (mkPu m (k0 + n))) (hn : n ≤ 1048576) (hm : m ≤ 1048576) (hk0 : 0 ≤ k0 ∧ k0 ≤ 10000000) :
    Calls Try.prog 31 #[.agg #[.int .i64 l, .int .i64 u, .int .i64 v, .slice A n capf, .slice A2 m capq], .int .i64 k0] w fun e w' => e = .returned (.int .i64 (k0 + n + 3 * m)) ∧ Below w.heap.size w w' := by
  go_enter Try.func31, Try.ntmps31
  go_wp2_with (fail)
  refine (c_laws_heldIntS _ _ _ _ _ (Rds.below h1 (by (repeat' (first | exact Below.refl _ _ | assumption | refine Below.setCell ?_ ?_ _ | refine Below.drew ?_ | refine Below.alloc ?_ ?_ _ | refine Below.trans ?_ (Below.mono (by assumption) ?_) | (simp; done) | (simp; omega) | omega)))) (by omega) (by omega)).mono ?_
  rintro e W1 ⟨rfl, hb1⟩
  have hc1 := cellOf hb1; have hf1 := frozOf hb1; have hz1 := sizeOf hb1; (try simp at hz1)
  have hk1 : k0 + 1 * (n : Int) = k0 + n := by omega
  simp only [hk1]
  go_wp2_with (fail)
  refine (c_laws_heldPumpS _ _ _ _ _ (Rds.below h2 (by (repeat' (first | exact Below.refl _ _ | assumption | refine Below.setCell ?_ ?_ _ | refine Below.drew ?_ | refine Below.alloc ?_ ?_ _ | refine Below.trans ?_ (Below.mono (by assumption) ?_) | (simp; done) | (simp; omega) | omega)))) (by omega) (by omega)).mono ?_
  rintro e W2 ⟨rfl, hb2⟩
  have hc2 := cellOf hb2; have hf2 := frozOf hb2; have hz2 := sizeOf hb2; (try simp at hz2)
  go_wp2_with (fail)
  go_ret
  exact ⟨rfl, by (repeat' (first | exact Below.refl _ _ | assumption | refine Below.setCell ?_ ?_ _ | refine Below.drew ?_ | refine Below.alloc ?_ ?_ _ | refine Below.trans ?_ (Below.mono (by assumption) ?_) | (simp; done) | (simp; omega) | omega))⟩

theorem woV_len (l u v : Int) (fs : List Int) (ps : List (Int × Int × Int)) (i : Int) : (woV l u v fs ps i).1.2.2.2.1.length ≤ fs.length ∧ (woV l u v fs ps i).1.2.2.2.2.length ≤ ps.length := by
  unfold woV
  split
  · simp; omega
  · simp

end Go.Proofs.Ytpaclngjmdacjaa
