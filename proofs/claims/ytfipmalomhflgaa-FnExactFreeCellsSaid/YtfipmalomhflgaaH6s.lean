import Derived.Test.YtfipmalomhflgaaH1s
import Derived.Test.YtfipmalomhflgaaB3s
import Derived.Test.YtfipmalomhflgaaB6
namespace Go.Proofs.Ytfipmalomhflgaa
set_option linter.unusedSimpArgs false
set_option linter.unusedVariables false
open Go.RowKit

set_option maxHeartbeats 400000 in
theorem c_spec_l16Asked (q : Int) (A : Option Addr) (xs : List (Int × Int × Int × Int × Int)) (cap : Nat) (h : Int) (w : World) (hx : Rds cBer 5 w A xs) (hn : xs.length ≤ 9223372036854775807) :
    Calls Try.prog 64 #[.int .i64 q, .slice A xs.length cap, .int .i64 h] w fun e w' => e = .returned (.bool (hourOk q xs h)) ∧ Below w.heap.size w w' := by
  go_enter Try.func64, Try.ntmps64
  go_wp2_with (first | (go_at_call 52; refine (c_spec_l16Good _ _ _ _ _ (by first | assumption | exact Rds.below hx (by (repeat' (first | exact Below.refl _ _ | assumption | refine Below.setCell ?_ ?_ _ | refine Below.drew ?_ | refine Below.alloc ?_ ?_ _ | refine Below.trans ?_ (Below.mono (by assumption) ?_) | (simp; done) | (simp; omega) | omega)))) (by omega)).mono ?_; rintro e w' ⟨rfl, hb⟩; have hc := cellOf hb; have hf := frozOf hb; have hz := sizeOf hb; try simp at hz) | (go_at_call 57; refine (c_spec_l1In _ _ _ _ ).mono ?_; rintro e w' ⟨rfl, hb⟩; have hc := cellOf hb; have hf := frozOf hb; have hz := sizeOf hb; try simp at hz))
  all_goals go_ret
  all_goals
    refine ⟨ret_bool ?_, ?_⟩
    · first | rfl | omega | (simp [hourOk]; done) | (simp [hourOk]; omega) | (simp [hourOk]; (repeat' split) <;> (first | omega | (simp; done) | (simp; omega))) | (simp_all [hourOk]; done) | (simp_all [hourOk]; omega)
    · (repeat' (first | exact Below.refl _ _ | assumption | refine Below.setCell ?_ ?_ _ | refine Below.drew ?_ | refine Below.alloc ?_ ?_ _ | refine Below.trans ?_ (Below.mono (by assumption) ?_) | (simp; done) | (simp; omega) | omega))

set_option maxRecDepth 100000 in
set_option maxHeartbeats 4000000 in
theorem c_spec_l16Free (q : Int) (A : Option Addr) (xs : List (Int × Int × Int × Int × Int)) (cap : Nat) (h : Int) (w : World) (hx : Rds cBer 5 w A xs) (hn : xs.length ≤ 9223372036854775807) (hv : berV q xs = true) (hh : 0 ≤ h ∧ h ≤ 499) :
    Calls Try.prog 65 #[.int .i64 q, .slice A xs.length cap, .int .i64 h] w fun e w' => ∃ A' cap', e = .returned (.slice A' (freeTo xs h q.toNat).length cap') ∧ FreshA cIn 1 3 w.heap.size w' A' cap' (freeTo xs h q.toNat) ∧ Below w.heap.size w w' := by
  obtain ⟨i0, hI0, hI1, hI2, hI3⟩ := info_parts info_In
  have hqb := inB_bd (berV_quay hv)
  have hok := berV_P hv
  obtain ⟨n, hnn⟩ : ∃ n : Nat, n = q.toNat := ⟨_, rfl⟩
  have HN := hid hnn
  have hnq : (n : Int) = q := by omega
  have HQ := hid hnq
  clear hnn hv
  obtain rfl := hnq
  simp only [Int.toNat_natCast]
  go_enter Try.func65, Try.ntmps65
  go_wp2_with (fail)
  go_loopw [7, 8] (fun v i wr => ∃ (k : Nat) (A' : Option Addr) (cp : Nat) (out : List Int), k ≤ n ∧ i = .int .i64 k ∧ v = .slice A' out.length cp ∧ FreshA cIn 1 3 w.heap.size wr A' cp out ∧ out = freeTo xs h k ∧ out.length ≤ k ∧ Below w.heap.size w wr) (fun _ i _ => n - (intOf i).toNat)
  case atStart => exact ⟨0, _, _, [], Nat.zero_le _, rfl, rfl, FreshA.emp (by (repeat' (first | exact Below.refl _ _ | assumption | refine Below.setCell ?_ ?_ _ | refine Below.drew ?_ | refine Below.alloc ?_ ?_ _ | refine Below.trans ?_ (Below.mono (by assumption) ?_) | (simp; done) | (simp; omega) | omega))), rfl, Nat.zero_le _, by (repeat' (first | exact Below.refl _ _ | assumption | refine Below.setCell ?_ ?_ _ | refine Below.drew ?_ | refine Below.alloc ?_ ?_ _ | refine Below.trans ?_ (Below.mono (by assumption) ?_) | (simp; done) | (simp; omega) | omega))⟩
  case round =>
    obtain ⟨k, A', cp, out, hk, rfl, rfl, hF, hT, hol, hbr⟩ := hrel
    have hlo := hF.lo
    have hhi := hF.hi
    have hc := cellOf hbr
    have hf := frozOf hbr
    have hz := sizeOf hbr
    by_cases hlt : k < n
    · have HS := hid (freeTo_succ xs h k)
      have HT := hid hT
      have HF := hid hF
      clear hT hF
      by_cases hfr : freeAt xs k h = true
      · have HS2 := hid (HS.out.trans (by rw [if_pos hfr]))
        have hme : meets xs k 1 h (h + 1) = false := by simpa [freeAt] using hfr
        go_wp2_with (first | (first | (go_at_call 60; refine (c_spec_l16Used _ _ _ _ _ _ (by first | assumption | exact Rds.below hx (by (repeat' (first | exact Below.refl _ _ | assumption | refine Below.setCell ?_ ?_ _ | refine Below.drew ?_ | refine Below.alloc ?_ ?_ _ | refine Below.trans ?_ (Below.mono (by assumption) ?_) | (simp; done) | (simp; omega) | omega)))) (by omega) hok (by omega)).mono ?_; rintro e w' ⟨rfl, hb⟩; have hc := cellOf hb; have hf := frozOf hb; have hz := sizeOf hb; try simp at hz)) | (at_builtin; refine wpList_push rfl (.tmp 20) (.tmp 22) 40 rfl 3 i0 _ 1 8 Try.underlying40 hI0 hI1 hI2 hI3 rfl (by decide) (fun _ => rfl) one_In (w.heap.size) A' out.length cp (out) rfl rfl (HF.out.below (by (repeat' (first | exact Below.refl _ _ | assumption | refine Below.setCell ?_ ?_ _ | refine Below.drew ?_ | refine Below.alloc ?_ ?_ _ | refine Below.trans ?_ (Below.mono (by assumption) ?_) | (simp; done) | (simp; omega) | omega)))) ((k : Int)) _ 1 rfl ?_ ?_ ?_ ?_ ?_; (refine news_In _ _ _ ?_ <;> simp [go_sem, ↓IntWalk.iteOmega]); (unfold maxLen; omega); omega; (simp; omega); intro A3 cp3 w3 hF3 hg3 hat3; have hc3 := cellGrown hg3 hlo hhi; have hf3 := frozGrown hg3 hlo hhi; have hs3 := hg3.size; (try simp at hs3); have hb3 := below_of_grown (B := w.heap.size) hg3 (hlo.mono (by omega)) (by simp; omega)))
        go_roundw
        case rel => exact ⟨k + 1, A3, cp3, out ++ [(k : Int)], by omega, by go_num, by simp, hF3, by rw [HS2.out, HT.out], by simp; omega, by (repeat' (first | exact Below.refl _ _ | assumption | refine Below.setCell ?_ ?_ _ | refine Below.drew ?_ | refine Below.alloc ?_ ?_ _ | refine Below.trans ?_ (Below.mono (by assumption) ?_) | (simp; done) | (simp; omega) | omega))⟩
        case measure => simp [intOf]; omega
      · have HS2 := hid (HS.out.trans (by rw [if_neg hfr]))
        have hfn : freeAt xs k h = false := by simpa using hfr
        have hme : meets xs k 1 h (h + 1) = true := by simpa [freeAt] using hfn
        clear hfr
        go_wp2_with (first | (go_at_call 60; refine (c_spec_l16Used _ _ _ _ _ _ (by first | assumption | exact Rds.below hx (by (repeat' (first | exact Below.refl _ _ | assumption | refine Below.setCell ?_ ?_ _ | refine Below.drew ?_ | refine Below.alloc ?_ ?_ _ | refine Below.trans ?_ (Below.mono (by assumption) ?_) | (simp; done) | (simp; omega) | omega)))) (by omega) hok (by omega)).mono ?_; rintro e w' ⟨rfl, hb⟩; have hc := cellOf hb; have hf := frozOf hb; have hz := sizeOf hb; try simp at hz))
        go_roundw
        case rel => exact ⟨k + 1, A', cp, out, by omega, by go_num, rfl, HF.out.below (by (repeat' (first | exact Below.refl _ _ | assumption | refine Below.setCell ?_ ?_ _ | refine Below.drew ?_ | refine Below.alloc ?_ ?_ _ | refine Below.trans ?_ (Below.mono (by assumption) ?_) | (simp; done) | (simp; omega) | omega))), by rw [HS2.out, HT.out, List.append_nil], by omega, by (repeat' (first | exact Below.refl _ _ | assumption | refine Below.setCell ?_ ?_ _ | refine Below.drew ?_ | refine Below.alloc ?_ ?_ _ | refine Below.trans ?_ (Below.mono (by assumption) ?_) | (simp; done) | (simp; omega) | omega))⟩
        case measure => simp [intOf]; omega
    · obtain rfl : k = n := by omega
      have HT := hid hT
      clear hT
      go_wp2_with (fail)
      go_ret
      exact ⟨A', cp, by rw [← HT.out]; rfl, by rw [← HT.out]; exact hF, by (repeat' (first | exact Below.refl _ _ | assumption | refine Below.setCell ?_ ?_ _ | refine Below.drew ?_ | refine Below.alloc ?_ ?_ _ | refine Below.trans ?_ (Below.mono (by assumption) ?_) | (simp; done) | (simp; omega) | omega))⟩

set_option maxRecDepth 100000 in
set_option maxHeartbeats 2000000 in
theorem c_spec_FreeCells (q : Int) (A : Option Addr) (xs : List (Int × Int × Int × Int × Int)) (cap : Nat) (h : Int) (w : World) (hx : Rds cBer 5 w A xs) (hn : xs.length ≤ 9223372036854775807)  :
    Calls Try.prog 31 #[.int .i64 q, .slice A xs.length cap, .int .i64 h] w fun e w' => ∃ A' cap', e = .returned (.tuple #[.slice A' (freeV q xs h).1.length cap', .bool (freeV q xs h).2]) ∧ FreshA cIn 1 3 w.heap.size w' A' cap' (freeV q xs h).1 ∧ Below w.heap.size w w' := by
  by_cases hs0 : hourOk q xs h = true
  rotate_left
  · have hn0 : hourOk q xs h = false := Bool.eq_false_iff.2 hs0
    have hV : freeV q xs h = ([], false) := freeV_no hn0
    simp only [hV]
    clear hs0 hV
    go_enter Try.func31, Try.ntmps31
    go_wp2_with (first | (go_at_call 64; refine (c_spec_l16Asked _ _ _ _ _ _ (by first | assumption | exact Rds.below hx (by (repeat' (first | exact Below.refl _ _ | assumption | refine Below.setCell ?_ ?_ _ | refine Below.drew ?_ | refine Below.alloc ?_ ?_ _ | refine Below.trans ?_ (Below.mono (by assumption) ?_) | (simp; done) | (simp; omega) | omega)))) (by omega)).mono ?_; rintro e w' ⟨rfl, hb⟩; have hc := cellOf hb; have hf := frozOf hb; have hz := sizeOf hb; try simp at hz))
    all_goals go_ret2
    all_goals exact ⟨_, _, rfl, FreshA.new (by (try simp at *); omega), by (repeat' (first | exact Below.refl _ _ | assumption | refine Below.setCell ?_ ?_ _ | refine Below.drew ?_ | refine Below.alloc ?_ ?_ _ | refine Below.trans ?_ (Below.mono (by assumption) ?_) | (simp; done) | (simp; omega) | omega))⟩
  obtain ⟨hv, hh⟩ := hourOk_bd hs0
  have hV : freeV q xs h = (freeTo xs h q.toNat, true) := freeV_yes hs0
  simp only [hV]
  clear hV
  go_enter Try.func31, Try.ntmps31
  go_wp2_with (first | (first | (go_at_call 64; refine (c_spec_l16Asked _ _ _ _ _ _ (by first | assumption | exact Rds.below hx (by (repeat' (first | exact Below.refl _ _ | assumption | refine Below.setCell ?_ ?_ _ | refine Below.drew ?_ | refine Below.alloc ?_ ?_ _ | refine Below.trans ?_ (Below.mono (by assumption) ?_) | (simp; done) | (simp; omega) | omega)))) (by omega)).mono ?_; rintro e w' ⟨rfl, hb⟩; have hc := cellOf hb; have hf := frozOf hb; have hz := sizeOf hb; try simp at hz)) | (go_at_call 65; refine (c_spec_l16Free _ _ _ _ _ _ (hx.below (by (repeat' (first | exact Below.refl _ _ | assumption | refine Below.setCell ?_ ?_ _ | refine Below.drew ?_ | refine Below.alloc ?_ ?_ _ | refine Below.trans ?_ (Below.mono (by assumption) ?_) | (simp; done) | (simp; omega) | omega)))) hn hv hh).mono ?_; rintro e w9 ⟨A9, c9, rfl, hF9, hb9⟩))
  go_ret2
  exact ⟨A9, c9, rfl, hF9.mono (by have := hb9.size; first | omega | (simp at *; omega)), by (repeat' (first | exact Below.refl _ _ | assumption | refine Below.setCell ?_ ?_ _ | refine Below.drew ?_ | refine Below.alloc ?_ ?_ _ | refine Below.trans ?_ (Below.mono (by assumption) ?_) | (simp; done) | (simp; omega) | omega))⟩

end Go.Proofs.Ytfipmalomhflgaa
