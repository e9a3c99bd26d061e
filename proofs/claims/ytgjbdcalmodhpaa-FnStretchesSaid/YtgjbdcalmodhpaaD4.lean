import Derived.Test.YtgjbdcalmodhpaaD3
namespace Go.Proofs.Ytgjbdcalmodhpaa
set_option linter.unusedSimpArgs false
set_option linter.unusedVariables false
open Go.RowKit

set_option maxRecDepth 100000 in
set_option maxHeartbeats 4000000 in
theorem c_impl_smallestDelay (A : Option Addr) (xs : List (Int × Bool × Int × Int)) (cap : Nat) (i : Int) (d : Bool) (a b g : Int) (w : World) (hx : Rds cPas 4 w A xs) (hn : xs.length ≤ 9223372036854775807) (hok : ∀ k (hk : k < xs.length), bdP xs[k]) (hab : 0 ≤ a ∧ a ≤ 9999 ∧ 0 ≤ b ∧ b ≤ 9999) (hg : gapB g = true) :
    Calls Try.prog 69 #[.slice A xs.length cap, .agg #[.int .i64 i, .bool d, .int .i64 a, .int .i64 b], .int .i64 g] w fun e w' => e = .returned (.tuple #[.int .i64 (smD xs i d a b g).1, .bool (smD xs i d a b g).2]) ∧ Below w.heap.size w w' := by
  have hgb := gapB_bd hg
  clear hg
  go_enter Try.func69, Try.ntmps69
  go_wp2_with (fail)
  go_loopw [8] (fun p wr => ∃ (bq j : Nat), p = .pointer (some ⟨bq, 0, none⟩) ∧ w.heap.size + 2 ≤ bq ∧ bq < wr.heap.size ∧ wr.cell? ⟨bq, 0, none⟩ = some (.int .i64 j) ∧ wr.frozen? ⟨bq, 0, none⟩ = false ∧ b + j ≤ 10000
     ∧ wr.cell? ⟨w.heap.size, 0, none⟩ = some (.int .i64 i) ∧ wr.cell? ⟨w.heap.size, 1, none⟩ = some (.bool d) ∧ wr.cell? ⟨w.heap.size, 2, none⟩ = some (.int .i64 a) ∧ wr.cell? ⟨w.heap.size, 3, none⟩ = some (.int .i64 b) ∧ wr.cell? ⟨w.heap.size + 1, 0, none⟩ = some (.int .i64 g)
     ∧ (∀ z : Nat, z < j → delA xs i d a b g z = true) ∧ Below w.heap.size w wr) (fun p wr => (10000 - b - intOf ((wr.cell? ⟨blkV p, 0, none⟩).getD undef)).toNat)
  case atStart =>
    refine ⟨w.heap.size + 2, 0, rfl, by omega, by simp, by simp [go_sem], by simp [go_sem], by omega, by simp [go_sem], by simp [go_sem], by simp [go_sem], by simp [go_sem], by simp [go_sem], fun z hz => absurd hz (Nat.not_lt_zero z), by (repeat' (first | exact Below.refl _ _ | assumption | refine Below.setCell ?_ ?_ _ | refine Below.drew ?_ | refine Below.alloc ?_ ?_ _ | refine Below.trans ?_ (Below.mono (by assumption) ?_) | (simp; done) | (simp; omega) | omega))⟩
  case round =>
    obtain ⟨bq, j, rfl, hq1, hq2, hq3, hq4, hj, hp0, hp1, hp2, hp3, hg0, hall, hbr⟩ := hrel
    have hc := cellOf hbr
    have hf := frozOf hbr
    have hz := sizeOf hbr
    have hp0' : far wr w.heap.size 0 = _ := hp0
    have hp1' : far wr w.heap.size 1 = _ := hp1
    have hp2' : far wr w.heap.size 2 = _ := hp2
    have hp3' : far wr w.heap.size 3 = _ := hp3
    have hg0' : far wr (w.heap.size + 1) 0 = _ := hg0
    have hq3' : far wr bq 0 = _ := hq3
    have hq4' : farz wr bq 0 = _ := hq4
    by_cases hle : b + j ≤ 9999
    · by_cases hd : delA xs i d a b g j = true
      · have HA := hid hall
        have HD := hid hd
        clear hall
        have hd' : xs.any (delP i d a b g j) = true := hd
        go_wp2_with (go_at_call 67; refine (c_has_delay _ _ _ i d a b g j w.heap.size bq (w.heap.size + 1) _ (Rds.below hx (by assumption)) (by omega) (by assumption) (by assumption) (by assumption) (by assumption) (by omega) (by assumption) (by omega) (by assumption) (by omega) hok (by omega)).mono ?_; rintro e w' ⟨rfl, hb⟩; have hc := cellOf hb; have hf := frozOf hb; have hz := sizeOf hb; try simp at hz)
        go_roundw
        case rel =>
          refine ⟨_, j + 1, rfl, ?_, ?_, ?_, ?_, by omega, ?_, ?_, ?_, ?_, ?_, ?_, ?_⟩
          rotate_left 9
          · intro z hz
            by_cases hzj : z < j
            · exact HA.out z hzj
            · obtain rfl : z = j := by omega
              exact HD.out
          all_goals first | ((repeat' (first | exact Below.refl _ _ | assumption | refine Below.setCell ?_ ?_ _ | refine Below.drew ?_ | refine Below.alloc ?_ ?_ _ | refine Below.trans ?_ (Below.mono (by assumption) ?_) | (simp; done) | (simp; omega) | omega)); done) | (simp [go_sem, ↓IntWalk.iteOmega, *]; done) | (simp [go_sem, ↓IntWalk.iteOmega, *]; omega) | (simp; omega)
        case measure => simp [intOf, blkV, go_sem, ↓IntWalk.iteOmega, *]; omega
      · have hd1 : delA xs i d a b g j = false := by simpa using hd
        have HF := hid (show smD xs i d a b g = ((j : Int), true) by simp [smD, smF_hit hle hall hd1])
        clear hall hd
        have hd' : xs.any (delP i d a b g j) = false := hd1
        go_wp2_with (go_at_call 67; refine (c_has_delay _ _ _ i d a b g j w.heap.size bq (w.heap.size + 1) _ (Rds.below hx (by assumption)) (by omega) (by assumption) (by assumption) (by assumption) (by assumption) (by omega) (by assumption) (by omega) (by assumption) (by omega) hok (by omega)).mono ?_; rintro e w' ⟨rfl, hb⟩; have hc := cellOf hb; have hf := frozOf hb; have hz := sizeOf hb; try simp at hz)
        go_ret2
        exact ⟨by first | (rw [HF.out]; done) | (rw [HF.out]; rfl), by (repeat' (first | exact Below.refl _ _ | assumption | refine Below.setCell ?_ ?_ _ | refine Below.drew ?_ | refine Below.alloc ?_ ?_ _ | refine Below.trans ?_ (Below.mono (by assumption) ?_) | (simp; done) | (simp; omega) | omega))⟩
    · have HF := hid (show smD xs i d a b g = (0, false) by simp [smD, smF_none (xs := xs) (i := i) (d := d) (a := a) (b := b) (g := g) (fun z hz => hall z (by omega))])
      clear hall
      go_wp2_with (fail)
      go_ret2
      exact ⟨by first | (rw [HF.out]; done) | (rw [HF.out]; rfl), by (repeat' (first | exact Below.refl _ _ | assumption | refine Below.setCell ?_ ?_ _ | refine Below.drew ?_ | refine Below.alloc ?_ ?_ _ | refine Below.trans ?_ (Below.mono (by assumption) ?_) | (simp; done) | (simp; omega) | omega))⟩

end Go.Proofs.Ytgjbdcalmodhpaa
