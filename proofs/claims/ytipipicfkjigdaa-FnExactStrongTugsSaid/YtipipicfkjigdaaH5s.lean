import Derived.Test.YtipipicfkjigdaaSL0
import Derived.Test.YtipipicfkjigdaaH2s
namespace Go.Proofs.Ytipipicfkjigdaa
set_option linter.unusedSimpArgs false
set_option linter.unusedVariables false
open Go.RowKit

set_option maxRecDepth 100000 in
set_option maxHeartbeats 4000000 in
theorem c_spec_StrongTugs (A : Option Addr) (xs : List (Int × Int × Int)) (cap : Nat) (p : Int) (w : World) (hx : Rds cTug 3 w A xs) (hn : xs.length ≤ 9223372036854775807) :
    Calls Try.prog 25 #[.slice A xs.length cap, .int .i64 p] w fun e w' => ∃ A' cap', e = .returned (.tuple #[.slice A' (strongV xs p).1.length cap', .bool (strongV xs p).2]) ∧ FreshA cIn 1 3 w.heap.size w' A' cap' (strongV xs p).1 ∧ Below w.heap.size w w' := by
  obtain ⟨i0, hI0, hI1, hI2, hI3⟩ := info_parts info_In
  by_cases hs0 : vB tugOk tugLt 4 xs = true
  rotate_left
  · have hn0 : vB tugOk tugLt 4 xs = false := by simpa using hs0
    have hV : strongV xs p = ([], false) := by simp [strongV, hn0]
    simp only [hV]
    clear hs0 hV
    go_enter Try.func25, Try.ntmps25
    go_wp2_with (first | (go_at_call 43; refine (c_spec_l17Tugs _ _ _ _ (by first | assumption | exact Rds.below hx (by (repeat' (first | exact Below.refl _ _ | assumption | refine Below.setCell ?_ ?_ _ | refine Below.drew ?_ | refine Below.alloc ?_ ?_ _ | refine Below.trans ?_ (Below.mono (by assumption) ?_) | (simp; done) | (simp; omega) | omega)))) (by omega)).mono ?_; rintro e w' ⟨rfl, hb⟩; have hc := cellOf hb; have hf := frozOf hb; have hz := sizeOf hb; try simp at hz) | (go_at_call 55; refine (c_spec_l1In _ _ _ _ ).mono ?_; rintro e w' ⟨rfl, hb⟩; have hc := cellOf hb; have hf := frozOf hb; have hz := sizeOf hb; try simp at hz))
    all_goals go_ret2
    all_goals exact ⟨_, _, rfl, FreshA.emp (by (repeat' (first | exact Below.refl _ _ | assumption | refine Below.setCell ?_ ?_ _ | refine Below.drew ?_ | refine Below.alloc ?_ ?_ _ | refine Below.trans ?_ (Below.mono (by assumption) ?_) | (simp; done) | (simp; omega) | omega))), by (repeat' (first | exact Below.refl _ _ | assumption | refine Below.setCell ?_ ?_ _ | refine Below.drew ?_ | refine Below.alloc ?_ ?_ _ | refine Below.trans ?_ (Below.mono (by assumption) ?_) | (simp; done) | (simp; omega) | omega))⟩
  by_cases hs1 : inB p 1 9 = true
  rotate_left
  · have hn1 : inB p 1 9 = false := by simpa using hs1
    have hV : strongV xs p = ([], false) := by simp [strongV, hn1]
    simp only [hV]
    clear hs1 hV
    go_enter Try.func25, Try.ntmps25
    go_wp2_with (first | (go_at_call 43; refine (c_spec_l17Tugs _ _ _ _ (by first | assumption | exact Rds.below hx (by (repeat' (first | exact Below.refl _ _ | assumption | refine Below.setCell ?_ ?_ _ | refine Below.drew ?_ | refine Below.alloc ?_ ?_ _ | refine Below.trans ?_ (Below.mono (by assumption) ?_) | (simp; done) | (simp; omega) | omega)))) (by omega)).mono ?_; rintro e w' ⟨rfl, hb⟩; have hc := cellOf hb; have hf := frozOf hb; have hz := sizeOf hb; try simp at hz) | (go_at_call 55; refine (c_spec_l1In _ _ _ _ ).mono ?_; rintro e w' ⟨rfl, hb⟩; have hc := cellOf hb; have hf := frozOf hb; have hz := sizeOf hb; try simp at hz))
    all_goals go_ret2
    all_goals exact ⟨_, _, rfl, FreshA.emp (by (repeat' (first | exact Below.refl _ _ | assumption | refine Below.setCell ?_ ?_ _ | refine Below.drew ?_ | refine Below.alloc ?_ ?_ _ | refine Below.trans ?_ (Below.mono (by assumption) ?_) | (simp; done) | (simp; omega) | omega))), by (repeat' (first | exact Below.refl _ _ | assumption | refine Below.setCell ?_ ?_ _ | refine Below.drew ?_ | refine Below.alloc ?_ ?_ _ | refine Below.trans ?_ (Below.mono (by assumption) ?_) | (simp; done) | (simp; omega) | omega))⟩
  have hlen := vB_len hs0
  go_enter Try.func25, Try.ntmps25
  go_wp2_with (first | (go_at_call 43; refine (c_spec_l17Tugs _ _ _ _ (by first | assumption | exact Rds.below hx (by (repeat' (first | exact Below.refl _ _ | assumption | refine Below.setCell ?_ ?_ _ | refine Below.drew ?_ | refine Below.alloc ?_ ?_ _ | refine Below.trans ?_ (Below.mono (by assumption) ?_) | (simp; done) | (simp; omega) | omega)))) (by omega)).mono ?_; rintro e w' ⟨rfl, hb⟩; have hc := cellOf hb; have hf := frozOf hb; have hz := sizeOf hb; try simp at hz) | (go_at_call 55; refine (c_spec_l1In _ _ _ _ ).mono ?_; rintro e w' ⟨rfl, hb⟩; have hc := cellOf hb; have hf := frozOf hb; have hz := sizeOf hb; try simp at hz))
  go_loopw [6, 7] (fun v i wr => ∃ (k : Nat) (A' : Option Addr) (cp : Nat) (out : List Int), k ≤ xs.length ∧ i = .int .i64 k ∧ v = .slice A' out.length cp ∧ FreshA cIn 1 3 w.heap.size wr A' cp out ∧ out = strongL (xs.take k) p ∧ out.length ≤ k ∧ Below w.heap.size w wr) (fun _ i _ => xs.length - (intOf i).toNat)
  case atStart => exact ⟨0, _, _, [], Nat.zero_le _, rfl, rfl, FreshA.emp (by (repeat' (first | exact Below.refl _ _ | assumption | refine Below.setCell ?_ ?_ _ | refine Below.drew ?_ | refine Below.alloc ?_ ?_ _ | refine Below.trans ?_ (Below.mono (by assumption) ?_) | (simp; done) | (simp; omega) | omega))), rfl, Nat.zero_le _, by (repeat' (first | exact Below.refl _ _ | assumption | refine Below.setCell ?_ ?_ _ | refine Below.drew ?_ | refine Below.alloc ?_ ?_ _ | refine Below.trans ?_ (Below.mono (by assumption) ?_) | (simp; done) | (simp; omega) | omega))⟩
  case round =>
    obtain ⟨k, A', cp, out, hk, rfl, rfl, hF, hT, hol, hbr⟩ := hrel
    have hlo := hF.lo
    have hhi := hF.hi
    have hc := cellOf hbr
    have hf := frozOf hbr
    have hz := sizeOf hbr
    by_cases hlt : k < xs.length
    · obtain ⟨bx, ox, rfl, hbx, hcx⟩ := hx k xs[k] (List.getElem?_eq_getElem hlt)
      have hx0 := hcx 0 _ rfl
      have hx1 := hcx 1 _ rfl
      have hx2 := hcx 2 _ rfl
      simp only [Nat.add_zero] at hx0
      have HS := hid (strongL_snoc xs p k hlt)
      have HT := hid hT
      have HF := hid hF
      clear hx hcx hT hF
      generalize xs[k] = x at *
      by_cases hp : p ≤ x.2.2
      · have HS2 := hid (HS.out.trans (by rw [if_pos hp]))
        go_wp2_with ((at_builtin; refine wpList_push rfl (.tmp 31) (.tmp 37) 43 rfl 3 i0 _ 1 8 Try.underlying43 hI0 hI1 hI2 hI3 rfl (by decide) (fun _ => rfl) one_In (w.heap.size) A' out.length cp (out) rfl rfl (HF.out.below (by (repeat' (first | exact Below.refl _ _ | assumption | refine Below.setCell ?_ ?_ _ | refine Below.drew ?_ | refine Below.alloc ?_ ?_ _ | refine Below.trans ?_ (Below.mono (by assumption) ?_) | (simp; done) | (simp; omega) | omega)))) (x.1) _ 1 rfl ?_ ?_ ?_ ?_ ?_; (refine news_In _ _ _ ?_ <;> simp [go_sem, ↓IntWalk.iteOmega]); (unfold maxLen; omega); omega; (simp; omega); intro A3 cp3 w3 hF3 hg3 hat3; have hc3 := cellGrown hg3 hlo hhi; have hf3 := frozGrown hg3 hlo hhi; have hs3 := hg3.size; (try simp at hs3); have hb3 := below_of_grown (B := w.heap.size) hg3 (hlo.mono (by omega)) (by simp; omega)))
        go_roundw
        case rel => exact ⟨k + 1, A3, cp3, out ++ [x.1], by omega, by go_num, by simp, hF3, by rw [HS2.out, HT.out], by simp; omega, by (repeat' (first | exact Below.refl _ _ | assumption | refine Below.setCell ?_ ?_ _ | refine Below.drew ?_ | refine Below.alloc ?_ ?_ _ | refine Below.trans ?_ (Below.mono (by assumption) ?_) | (simp; done) | (simp; omega) | omega))⟩
        case measure => simp [intOf]; omega
      · have HS2 := hid (HS.out.trans (by rw [if_neg hp]))
        go_wp2_with (fail)
        go_roundw
        case rel => exact ⟨k + 1, A', cp, out, by omega, by go_num, rfl, HF.out.below (by (repeat' (first | exact Below.refl _ _ | assumption | refine Below.setCell ?_ ?_ _ | refine Below.drew ?_ | refine Below.alloc ?_ ?_ _ | refine Below.trans ?_ (Below.mono (by assumption) ?_) | (simp; done) | (simp; omega) | omega))), by rw [HS2.out, HT.out, List.append_nil], by omega, by (repeat' (first | exact Below.refl _ _ | assumption | refine Below.setCell ?_ ?_ _ | refine Below.drew ?_ | refine Below.alloc ?_ ?_ _ | refine Below.trans ?_ (Below.mono (by assumption) ?_) | (simp; done) | (simp; omega) | omega))⟩
        case measure => simp [intOf]; omega
    · obtain rfl : k = xs.length := by omega
      rw [List.take_length] at hT
      have HV : Hid (strongV xs p = (out, true)) := by
        show _ = _
        simp [strongV, hs0, hs1, hT]
      go_wp2_with (fail)
      go_ret2
      simp only [HV.out]
      exact ⟨_, _, rfl, hF, by (repeat' (first | exact Below.refl _ _ | assumption | refine Below.setCell ?_ ?_ _ | refine Below.drew ?_ | refine Below.alloc ?_ ?_ _ | refine Below.trans ?_ (Below.mono (by assumption) ?_) | (simp; done) | (simp; omega) | omega))⟩

end Go.Proofs.Ytipipicfkjigdaa
