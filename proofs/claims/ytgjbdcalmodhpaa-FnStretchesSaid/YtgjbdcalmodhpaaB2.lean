import Derived.Test.YtgjbdcalmodhpaaPN
import Derived.Test.YtgjbdcalmodhpaaP1
namespace Go.Proofs.Ytgjbdcalmodhpaa
set_option linter.unusedSimpArgs false
set_option linter.unusedVariables false
open Go.RowKit

theorem foldl_snoc {α β : Type} (f : β → α → β) (b : β) (xs : List α) (k : Nat) (h : k < xs.length) : (xs.take (k + 1)).foldl f b = f ((xs.take k).foldl f b) xs[k] := by
  rw [List.take_succ_eq_append_getElem h, List.foldl_append]; rfl
set_option maxHeartbeats 2000000 in
theorem c_spec_l14Busy (A : Option Addr) (xs : List (Int × Bool × Int × Int)) (cap : Nat) (f t : Int) (w : World) (hx : Rds cPas 4 w A xs) (hn : xs.length ≤ 9223372036854775807) :
    Calls Try.prog 60 #[.slice A xs.length cap, .int .i64 f, .int .i64 t] w fun e w' => e = .returned (.int .i64 (lastB xs f t)) ∧ Below w.heap.size w w' := by
  go_enter Try.func60, Try.ntmps60
  go_wp2_with (fail)
  go_loopw [7, 8] (fun q i wr => ∃ k : Nat, k ≤ xs.length ∧ i = .int .i64 k ∧ q = .int .i64 ((xs.take k).foldl (lastStep f t) (-1)) ∧ Below w.heap.size w wr) (fun _ i _ => xs.length - (intOf i).toNat)
  case atStart => exact ⟨0, Nat.zero_le _, rfl, rfl, Below.refl _ _⟩
  case round =>
    obtain ⟨k, hk, rfl, rfl, hbr⟩ := hrel
    by_cases hlt : k < xs.length
    · obtain ⟨bx, ox, rfl, hbx, hcx⟩ := hx k xs[k] (List.getElem?_eq_getElem hlt)
      have hx2 := hcx 2 _ rfl
      have hx3 := hcx 3 _ rfl
      clear hcx hx
      have HS := hid (foldl_snoc (lastStep f t) (-1) xs k hlt)
      generalize (xs.take k).foldl (lastStep f t) (-1) = q at *
      generalize xs[k] = x at *
      have hc := cellOf hbr
      have hf := frozOf hbr
      have hz := sizeOf hbr
      go_wp2_with (first | (go_at_call 84; refine (c_spec_l1Most _ _ _ ).mono ?_; rintro e w' ⟨rfl, hb⟩; have hc := cellOf hb; have hf := frozOf hb; have hz := sizeOf hb; try simp at hz))
      all_goals
        go_roundw
        case rel => exact ⟨k + 1, by omega, by go_num, by first | (rw [HS.out, lastStep, if_pos (by omega)]) | (rw [HS.out, lastStep, if_neg (by omega)]), by (repeat' (first | exact Below.refl _ _ | assumption | refine Below.setCell ?_ ?_ _ | refine Below.drew ?_ | refine Below.alloc ?_ ?_ _ | refine Below.trans ?_ (Below.mono (by assumption) ?_) | (simp; done) | (simp; omega) | omega))⟩
        case measure => simp [intOf]; omega
    · obtain rfl : k = xs.length := by omega
      go_wp2_with (fail)
      go_ret
      exact ⟨ret_int (by simp [lastB]), by (repeat' (first | exact Below.refl _ _ | assumption | refine Below.setCell ?_ ?_ _ | refine Below.drew ?_ | refine Below.alloc ?_ ?_ _ | refine Below.trans ?_ (Below.mono (by assumption) ?_) | (simp; done) | (simp; omega) | omega))⟩

end Go.Proofs.Ytgjbdcalmodhpaa
