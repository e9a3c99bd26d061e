import Derived.Test.YtfipmalomhflgaaQT11
import Derived.Test.YtfipmalomhflgaaQT03
import Derived.OwnWalk
namespace Go.Proofs.Ytfipmalomhflgaa
set_option linter.unusedSimpArgs false
set_option linter.unusedVariables false
open Go.RowKit

set_option maxRecDepth 100000 in
set_option maxHeartbeats 4000000 in
theorem c_impl_EarliestBerth (q : Int) (A : Option Addr) (xs : List (Int × Int × Int × Int × Int)) (cap : Nat) (l s f : Int) (w : World) (hx : Rds cBer 5 w A xs) (hn : xs.length ≤ 9223372036854775807) (hcap : xs.length ≤ cap) (hmax : cap ≤ 9223372036854775807) (hlr : l ≤ 9223372036854775807) (hsr : s ≤ 9223372036854775807) :
    Calls Try.prog 22 #[.int .i64 q, .slice A xs.length cap, .int .i64 l, .int .i64 s, .int .i64 f] w fun e w' => e = .returned (.tuple #[.int .i64 (earlyV q xs l s f).1, .int .i64 (earlyV q xs l s f).2.1, .bool (earlyV q xs l s f).2.2]) ∧ Below w.heap.size w w' := by
  by_cases hs0 : berV q xs = true
  rotate_left
  · have hn0 : berV q xs = false := Bool.eq_false_iff.2 hs0
    have HV := hid (earlyV_b (l := l) (s := s) (f := f) hn0)
    clear hs0
    go_enter Try.func22, Try.ntmps22
    go_wp2_with (first | (go_at_call 17; refine (c_impl_IsBerthing _ _ _ _ _ (by first | assumption | exact Rds.below hx (by (repeat' (first | exact Below.refl _ _ | assumption | refine Below.setCell ?_ ?_ _ | refine Below.drew ?_ | refine Below.alloc ?_ ?_ _ | refine Below.trans ?_ (Below.mono (by assumption) ?_) | (simp; done) | (simp; omega) | omega)))) (by omega) (by omega) (by omega)).mono ?_; rintro e w' ⟨rfl, hb⟩; have hc := cellOf hb; have hf := frozOf hb; have hz := sizeOf hb; try simp at hz) | (go_at_call 53; refine (c_impl_inside _ _ _ _ ).mono ?_; rintro e w' ⟨rfl, hb⟩; have hc := cellOf hb; have hf := frozOf hb; have hz := sizeOf hb; try simp at hz))
    all_goals go_ret3
    all_goals exact ⟨by first | (rw [HV.out]; done) | (rw [HV.out]; rfl), by (repeat' (first | exact Below.refl _ _ | assumption | refine Below.setCell ?_ ?_ _ | refine Below.drew ?_ | refine Below.alloc ?_ ?_ _ | refine Below.trans ?_ (Below.mono (by assumption) ?_) | (simp; done) | (simp; omega) | omega))⟩
  by_cases hs1 : 1 ≤ l
  rotate_left
  · have HV := hid (earlyV_l (q := q) (xs := xs) (s := s) (f := f) hs1)
    go_enter Try.func22, Try.ntmps22
    go_wp2_with (first | (go_at_call 17; refine (c_impl_IsBerthing _ _ _ _ _ (by first | assumption | exact Rds.below hx (by (repeat' (first | exact Below.refl _ _ | assumption | refine Below.setCell ?_ ?_ _ | refine Below.drew ?_ | refine Below.alloc ?_ ?_ _ | refine Below.trans ?_ (Below.mono (by assumption) ?_) | (simp; done) | (simp; omega) | omega)))) (by omega) (by omega) (by omega)).mono ?_; rintro e w' ⟨rfl, hb⟩; have hc := cellOf hb; have hf := frozOf hb; have hz := sizeOf hb; try simp at hz) | (go_at_call 53; refine (c_impl_inside _ _ _ _ ).mono ?_; rintro e w' ⟨rfl, hb⟩; have hc := cellOf hb; have hf := frozOf hb; have hz := sizeOf hb; try simp at hz))
    all_goals go_ret3
    all_goals exact ⟨by first | (rw [HV.out]; done) | (rw [HV.out]; rfl), by (repeat' (first | exact Below.refl _ _ | assumption | refine Below.setCell ?_ ?_ _ | refine Below.drew ?_ | refine Below.alloc ?_ ?_ _ | refine Below.trans ?_ (Below.mono (by assumption) ?_) | (simp; done) | (simp; omega) | omega))⟩
  by_cases hs2 : 1 ≤ s
  rotate_left
  · have HV := hid (earlyV_s1 (q := q) (xs := xs) (l := l) (f := f) hs2)
    go_enter Try.func22, Try.ntmps22
    go_wp2_with (first | (go_at_call 17; refine (c_impl_IsBerthing _ _ _ _ _ (by first | assumption | exact Rds.below hx (by (repeat' (first | exact Below.refl _ _ | assumption | refine Below.setCell ?_ ?_ _ | refine Below.drew ?_ | refine Below.alloc ?_ ?_ _ | refine Below.trans ?_ (Below.mono (by assumption) ?_) | (simp; done) | (simp; omega) | omega)))) (by omega) (by omega) (by omega)).mono ?_; rintro e w' ⟨rfl, hb⟩; have hc := cellOf hb; have hf := frozOf hb; have hz := sizeOf hb; try simp at hz) | (go_at_call 53; refine (c_impl_inside _ _ _ _ ).mono ?_; rintro e w' ⟨rfl, hb⟩; have hc := cellOf hb; have hf := frozOf hb; have hz := sizeOf hb; try simp at hz))
    all_goals go_ret3
    all_goals exact ⟨by first | (rw [HV.out]; done) | (rw [HV.out]; rfl), by (repeat' (first | exact Below.refl _ _ | assumption | refine Below.setCell ?_ ?_ _ | refine Below.drew ?_ | refine Below.alloc ?_ ?_ _ | refine Below.trans ?_ (Below.mono (by assumption) ?_) | (simp; done) | (simp; omega) | omega))⟩
  by_cases hs3 : inB f 0 500 = true
  rotate_left
  · have hn3 : inB f 0 500 = false := Bool.eq_false_iff.2 hs3
    have HV := hid (earlyV_f (q := q) (xs := xs) (l := l) (s := s) hn3)
    clear hs3
    go_enter Try.func22, Try.ntmps22
    go_wp2_with (first | (go_at_call 17; refine (c_impl_IsBerthing _ _ _ _ _ (by first | assumption | exact Rds.below hx (by (repeat' (first | exact Below.refl _ _ | assumption | refine Below.setCell ?_ ?_ _ | refine Below.drew ?_ | refine Below.alloc ?_ ?_ _ | refine Below.trans ?_ (Below.mono (by assumption) ?_) | (simp; done) | (simp; omega) | omega)))) (by omega) (by omega) (by omega)).mono ?_; rintro e w' ⟨rfl, hb⟩; have hc := cellOf hb; have hf := frozOf hb; have hz := sizeOf hb; try simp at hz) | (go_at_call 53; refine (c_impl_inside _ _ _ _ ).mono ?_; rintro e w' ⟨rfl, hb⟩; have hc := cellOf hb; have hf := frozOf hb; have hz := sizeOf hb; try simp at hz))
    all_goals go_ret3
    all_goals exact ⟨by first | (rw [HV.out]; done) | (rw [HV.out]; rfl), by (repeat' (first | exact Below.refl _ _ | assumption | refine Below.setCell ?_ ?_ _ | refine Below.drew ?_ | refine Below.alloc ?_ ?_ _ | refine Below.trans ?_ (Below.mono (by assumption) ?_) | (simp; done) | (simp; omega) | omega))⟩
  by_cases hs4 : l ≤ q
  rotate_left
  · have HV := hid (earlyV_q (xs := xs) (s := s) (f := f) (Int.not_le.1 hs4))
    go_enter Try.func22, Try.ntmps22
    go_wp2_with (first | (go_at_call 17; refine (c_impl_IsBerthing _ _ _ _ _ (by first | assumption | exact Rds.below hx (by (repeat' (first | exact Below.refl _ _ | assumption | refine Below.setCell ?_ ?_ _ | refine Below.drew ?_ | refine Below.alloc ?_ ?_ _ | refine Below.trans ?_ (Below.mono (by assumption) ?_) | (simp; done) | (simp; omega) | omega)))) (by omega) (by omega) (by omega)).mono ?_; rintro e w' ⟨rfl, hb⟩; have hc := cellOf hb; have hf := frozOf hb; have hz := sizeOf hb; try simp at hz) | (go_at_call 53; refine (c_impl_inside _ _ _ _ ).mono ?_; rintro e w' ⟨rfl, hb⟩; have hc := cellOf hb; have hf := frozOf hb; have hz := sizeOf hb; try simp at hz))
    all_goals go_ret3
    all_goals exact ⟨by first | (rw [HV.out]; done) | (rw [HV.out]; rfl), by (repeat' (first | exact Below.refl _ _ | assumption | refine Below.setCell ?_ ?_ _ | refine Below.drew ?_ | refine Below.alloc ?_ ?_ _ | refine Below.trans ?_ (Below.mono (by assumption) ?_) | (simp; done) | (simp; omega) | omega))⟩
  have hfb := inB_bd hs3
  skip
  have hqb := inB_bd (berV_quay hs0)
  have hok := berV_P hs0
  have HV := hid (show earlyV q xs l s f = earlyR f (earlyF q xs l s f) from earlyV_eq hs0 hs1 (by exact hs2) hs3)
  obtain ⟨n, hnn⟩ : ∃ n : Nat, n = (q - l + 1).toNat := ⟨_, rfl⟩
  have HN := hid hnn
  have hn1 : ∀ c : Nat, c < n ↔ (c : Int) + l ≤ q := by intro c; omega
  have hnz : n ≤ 20 := by omega
  have hnl : (n : Int) + l ≤ 9223372036854775807 := by omega
  clear hnn
  go_enter Try.func22, Try.ntmps22
  go_wp2_with (first | (go_at_call 17; refine (c_impl_IsBerthing _ _ _ _ _ (by first | assumption | exact Rds.below hx (by (repeat' (first | exact Below.refl _ _ | assumption | refine Below.setCell ?_ ?_ _ | refine Below.drew ?_ | refine Below.alloc ?_ ?_ _ | refine Below.trans ?_ (Below.mono (by assumption) ?_) | (simp; done) | (simp; omega) | omega)))) (by omega) (by omega) (by omega)).mono ?_; rintro e w' ⟨rfl, hb⟩; have hc := cellOf hb; have hf := frozOf hb; have hz := sizeOf hb; try simp at hz) | (go_at_call 53; refine (c_impl_inside _ _ _ _ ).mono ?_; rintro e w' ⟨rfl, hb⟩; have hc := cellOf hb; have hf := frozOf hb; have hz := sizeOf hb; try simp at hz))
  go_loopw [13] (fun i wr => ∃ j : Nat, i = .int .i64 (f + (j : Int)) ∧ f + (j : Int) ≤ 500 ∧ (∀ y : Nat, y < j → rowFree xs l s (f + (y : Int)) n = none) ∧ Below w.heap.size w wr) (fun i _ => (501 - intOf i).toNat)
  case atStart => exact ⟨0, by simp, by omega, fun y hy => absurd hy (Nat.not_lt_zero y), by (repeat' (first | exact Below.refl _ _ | assumption | refine Below.setCell ?_ ?_ _ | refine Below.drew ?_ | refine Below.alloc ?_ ?_ _ | refine Below.trans ?_ (Below.mono (by assumption) ?_) | (simp; done) | (simp; omega) | omega))⟩
  case round =>
    obtain ⟨j, rfl, hj, hl, hbr⟩ := hrel
    have hc := cellOf hbr
    have hf := frozOf hbr
    have hz := sizeOf hbr
    have HL := hid hl
    clear hl
    by_cases hjs : f + (j : Int) + s ≤ 500
    · have hjs' : f + (j : Int) ≤ 500 - s := by omega
      go_wp2_with (fail)
      go_loopw [14] (fun i wv => ∃ c : Nat, i = .int .i64 (c : Int) ∧ c ≤ n ∧ (∀ y : Nat, y < c → meets xs (y : Int) l (f + (j : Int)) (f + (j : Int) + s) = true) ∧ Below w.heap.size w wv) (fun i _ => n - (intOf i).toNat)
      case atStart => exact ⟨0, rfl, Nat.zero_le _, fun y hy => absurd hy (Nat.not_lt_zero y), by (repeat' (first | exact Below.refl _ _ | assumption | refine Below.setCell ?_ ?_ _ | refine Below.drew ?_ | refine Below.alloc ?_ ?_ _ | refine Below.trans ?_ (Below.mono (by assumption) ?_) | (simp; done) | (simp; omega) | omega))⟩
      case round =>
        obtain ⟨c, rfl, hcn, hm, hbv⟩ := hrel
        clear hc hf hz
        have hc := cellOf hbv
        have hf := frozOf hbv
        have hz := sizeOf hbv
        have HM := hid hm
        clear hm
        by_cases hcl : (c : Int) + l ≤ q
        · have hcn2 := (hn1 c).2 hcl
          clear hn1
          by_cases hme : meets xs (c : Int) l (f + (j : Int)) (f + (j : Int) + s) = true
          · have HE := hid hme
            go_wp2_with (go_at_call 55; refine (c_impl_meetsAny _ xs _ _ _ _ _ _ _ _ (by first | assumption | exact Rds.below hx (by (repeat' (first | exact Below.refl _ _ | assumption | refine Below.setCell ?_ ?_ _ | refine Below.drew ?_ | refine Below.alloc ?_ ?_ _ | refine Below.trans ?_ (Below.mono (by assumption) ?_) | (simp; done) | (simp; omega) | omega)))) rfl (by omega) hok (by omega)).mono ?_; rintro e w' ⟨rfl, hb⟩; have hc := cellOf hb; have hf := frozOf hb; have hz := sizeOf hb; try simp at hz)
            go_roundw
            case rel =>
              refine ⟨c + 1, by go_num, by omega, fun y hy => ?_, by (repeat' (first | exact Below.refl _ _ | assumption | refine Below.setCell ?_ ?_ _ | refine Below.drew ?_ | refine Below.alloc ?_ ?_ _ | refine Below.trans ?_ (Below.mono (by assumption) ?_) | (simp; done) | (simp; omega) | omega))⟩
              by_cases hyc : y < c
              · exact HM.out y hyc
              · obtain rfl : y = c := by omega
                exact HE.out
            case measure => simp [intOf]; omega
          · have hmf : meets xs (c : Int) l (f + (j : Int)) (f + (j : Int) + s) = false := by simpa using hme
            have HE := hid (HV.out.trans (by rw [earlyF_hit (j := j) (c := c) (by omega) (fun y hy => by rw [← HN.out]; exact HL.out y hy) (by rw [← HN.out]; exact rowFree_hit hcn2 HM.out hmf)]))
            clear hme
            go_wp2_with (go_at_call 55; refine (c_impl_meetsAny _ xs _ _ _ _ _ _ _ _ (by first | assumption | exact Rds.below hx (by (repeat' (first | exact Below.refl _ _ | assumption | refine Below.setCell ?_ ?_ _ | refine Below.drew ?_ | refine Below.alloc ?_ ?_ _ | refine Below.trans ?_ (Below.mono (by assumption) ?_) | (simp; done) | (simp; omega) | omega)))) rfl (by omega) hok (by omega)).mono ?_; rintro e w' ⟨rfl, hb⟩; have hc := cellOf hb; have hf := frozOf hb; have hz := sizeOf hb; try simp at hz)
            go_ret3
            exact ⟨by first | (rw [HE.out]; done) | (rw [HE.out]; rfl), by (repeat' (first | exact Below.refl _ _ | assumption | refine Below.setCell ?_ ?_ _ | refine Below.drew ?_ | refine Below.alloc ?_ ?_ _ | refine Below.trans ?_ (Below.mono (by assumption) ?_) | (simp; done) | (simp; omega) | omega))⟩
        · have hcn2 : c = n := by have := hn1 c; omega
          have HE := hid (rowFree_none (xs := xs) (l := l) (s := s) (h := f + (j : Int)) (n := n) (by rw [← hcn2]; exact HM.out))
          clear hn1
          go_wp2_with (fail)
          go_roundw
          case rel =>
            refine ⟨j + 1, by go_num, by omega, fun y hy => ?_, by (repeat' (first | exact Below.refl _ _ | assumption | refine Below.setCell ?_ ?_ _ | refine Below.drew ?_ | refine Below.alloc ?_ ?_ _ | refine Below.trans ?_ (Below.mono (by assumption) ?_) | (simp; done) | (simp; omega) | omega))⟩
            by_cases hyc : y < j
            · exact HL.out y hyc
            · obtain rfl : y = j := by omega
              exact HE.out
          case measure => simp [intOf]; omega
    · have HE := hid (HV.out.trans (by rw [earlyF_none (fun y hy => by rw [← HN.out]; exact HL.out y (by omega))]))
      have hjs' : ¬ f + (j : Int) ≤ 500 - s := by omega
      clear hn1
      go_wp2_with (fail)
      go_ret3
      exact ⟨by first | (rw [HE.out]; done) | (rw [HE.out]; rfl), by (repeat' (first | exact Below.refl _ _ | assumption | refine Below.setCell ?_ ?_ _ | refine Below.drew ?_ | refine Below.alloc ?_ ?_ _ | refine Below.trans ?_ (Below.mono (by assumption) ?_) | (simp; done) | (simp; omega) | omega))⟩

end Go.Proofs.Ytfipmalomhflgaa
namespace Go.Proofs.Ytfipmalomhflgaa
set_option linter.unusedSimpArgs false
set_option linter.unusedVariables false
open Go.RowKit

set_option maxRecDepth 100000 in
set_option maxHeartbeats 4000000 in
theorem c_spec_EarliestBerth (q : Int) (A : Option Addr) (xs : List (Int × Int × Int × Int × Int)) (cap : Nat) (l s f : Int) (w : World) (hx : Rds cBer 5 w A xs) (hn : xs.length ≤ 9223372036854775807)  (hlr : l ≤ 9223372036854775807) (hsr : s ≤ 9223372036854775807) :
    Calls Try.prog 21 #[.int .i64 q, .slice A xs.length cap, .int .i64 l, .int .i64 s, .int .i64 f] w fun e w' => e = .returned (.tuple #[.int .i64 (earlyV q xs l s f).1, .int .i64 (earlyV q xs l s f).2.1, .bool (earlyV q xs l s f).2.2]) ∧ Below w.heap.size w w' := by
  by_cases hs0 : berV q xs = true
  rotate_left
  · have hn0 : berV q xs = false := Bool.eq_false_iff.2 hs0
    have HV := hid (earlyV_b (l := l) (s := s) (f := f) hn0)
    clear hs0
    go_enter Try.func21, Try.ntmps21
    go_wp2_with (first | (go_at_call 52; refine (c_spec_l16Good _ _ _ _ _ (by first | assumption | exact Rds.below hx (by (repeat' (first | exact Below.refl _ _ | assumption | refine Below.setCell ?_ ?_ _ | refine Below.drew ?_ | refine Below.alloc ?_ ?_ _ | refine Below.trans ?_ (Below.mono (by assumption) ?_) | (simp; done) | (simp; omega) | omega)))) (by omega)).mono ?_; rintro e w' ⟨rfl, hb⟩; have hc := cellOf hb; have hf := frozOf hb; have hz := sizeOf hb; try simp at hz) | (go_at_call 57; refine (c_spec_l1In _ _ _ _ ).mono ?_; rintro e w' ⟨rfl, hb⟩; have hc := cellOf hb; have hf := frozOf hb; have hz := sizeOf hb; try simp at hz))
    all_goals go_ret3
    all_goals exact ⟨by first | (rw [HV.out]; done) | (rw [HV.out]; rfl), by (repeat' (first | exact Below.refl _ _ | assumption | refine Below.setCell ?_ ?_ _ | refine Below.drew ?_ | refine Below.alloc ?_ ?_ _ | refine Below.trans ?_ (Below.mono (by assumption) ?_) | (simp; done) | (simp; omega) | omega))⟩
  by_cases hs1 : 1 ≤ l
  rotate_left
  · have HV := hid (earlyV_l (q := q) (xs := xs) (s := s) (f := f) hs1)
    go_enter Try.func21, Try.ntmps21
    go_wp2_with (first | (go_at_call 52; refine (c_spec_l16Good _ _ _ _ _ (by first | assumption | exact Rds.below hx (by (repeat' (first | exact Below.refl _ _ | assumption | refine Below.setCell ?_ ?_ _ | refine Below.drew ?_ | refine Below.alloc ?_ ?_ _ | refine Below.trans ?_ (Below.mono (by assumption) ?_) | (simp; done) | (simp; omega) | omega)))) (by omega)).mono ?_; rintro e w' ⟨rfl, hb⟩; have hc := cellOf hb; have hf := frozOf hb; have hz := sizeOf hb; try simp at hz) | (go_at_call 57; refine (c_spec_l1In _ _ _ _ ).mono ?_; rintro e w' ⟨rfl, hb⟩; have hc := cellOf hb; have hf := frozOf hb; have hz := sizeOf hb; try simp at hz))
    all_goals go_ret3
    all_goals exact ⟨by first | (rw [HV.out]; done) | (rw [HV.out]; rfl), by (repeat' (first | exact Below.refl _ _ | assumption | refine Below.setCell ?_ ?_ _ | refine Below.drew ?_ | refine Below.alloc ?_ ?_ _ | refine Below.trans ?_ (Below.mono (by assumption) ?_) | (simp; done) | (simp; omega) | omega))⟩
  by_cases hs2 : inB s 1 500 = true
  rotate_left
  · have hn2 : inB s 1 500 = false := Bool.eq_false_iff.2 hs2
    have HV := hid (earlyV_s (q := q) (xs := xs) (l := l) (f := f) hn2)
    clear hs2
    go_enter Try.func21, Try.ntmps21
    go_wp2_with (first | (go_at_call 52; refine (c_spec_l16Good _ _ _ _ _ (by first | assumption | exact Rds.below hx (by (repeat' (first | exact Below.refl _ _ | assumption | refine Below.setCell ?_ ?_ _ | refine Below.drew ?_ | refine Below.alloc ?_ ?_ _ | refine Below.trans ?_ (Below.mono (by assumption) ?_) | (simp; done) | (simp; omega) | omega)))) (by omega)).mono ?_; rintro e w' ⟨rfl, hb⟩; have hc := cellOf hb; have hf := frozOf hb; have hz := sizeOf hb; try simp at hz) | (go_at_call 57; refine (c_spec_l1In _ _ _ _ ).mono ?_; rintro e w' ⟨rfl, hb⟩; have hc := cellOf hb; have hf := frozOf hb; have hz := sizeOf hb; try simp at hz))
    all_goals go_ret3
    all_goals exact ⟨by first | (rw [HV.out]; done) | (rw [HV.out]; rfl), by (repeat' (first | exact Below.refl _ _ | assumption | refine Below.setCell ?_ ?_ _ | refine Below.drew ?_ | refine Below.alloc ?_ ?_ _ | refine Below.trans ?_ (Below.mono (by assumption) ?_) | (simp; done) | (simp; omega) | omega))⟩
  by_cases hs3 : inB f 0 500 = true
  rotate_left
  · have hn3 : inB f 0 500 = false := Bool.eq_false_iff.2 hs3
    have HV := hid (earlyV_f (q := q) (xs := xs) (l := l) (s := s) hn3)
    clear hs3
    go_enter Try.func21, Try.ntmps21
    go_wp2_with (first | (go_at_call 52; refine (c_spec_l16Good _ _ _ _ _ (by first | assumption | exact Rds.below hx (by (repeat' (first | exact Below.refl _ _ | assumption | refine Below.setCell ?_ ?_ _ | refine Below.drew ?_ | refine Below.alloc ?_ ?_ _ | refine Below.trans ?_ (Below.mono (by assumption) ?_) | (simp; done) | (simp; omega) | omega)))) (by omega)).mono ?_; rintro e w' ⟨rfl, hb⟩; have hc := cellOf hb; have hf := frozOf hb; have hz := sizeOf hb; try simp at hz) | (go_at_call 57; refine (c_spec_l1In _ _ _ _ ).mono ?_; rintro e w' ⟨rfl, hb⟩; have hc := cellOf hb; have hf := frozOf hb; have hz := sizeOf hb; try simp at hz))
    all_goals go_ret3
    all_goals exact ⟨by first | (rw [HV.out]; done) | (rw [HV.out]; rfl), by (repeat' (first | exact Below.refl _ _ | assumption | refine Below.setCell ?_ ?_ _ | refine Below.drew ?_ | refine Below.alloc ?_ ?_ _ | refine Below.trans ?_ (Below.mono (by assumption) ?_) | (simp; done) | (simp; omega) | omega))⟩
  have hfb := inB_bd hs3
  have hsb := inB_bd hs2
  have hqb := inB_bd (berV_quay hs0)
  have hok := berV_P hs0
  have HV := hid (show earlyV q xs l s f = earlyR f (earlyF q xs l s f) from earlyV_eq hs0 hs1 (by have := inB_bd hs2; omega) hs3)
  obtain ⟨n, hnn⟩ : ∃ n : Nat, n = (q - l + 1).toNat := ⟨_, rfl⟩
  have HN := hid hnn
  have hn1 : ∀ c : Nat, c < n ↔ (c : Int) + l ≤ q := by intro c; omega
  have hnz : n ≤ 20 := by omega
  have hnl : (n : Int) + l ≤ 9223372036854775807 := by omega
  clear hnn
  go_enter Try.func21, Try.ntmps21
  go_wp2_with (first | (go_at_call 52; refine (c_spec_l16Good _ _ _ _ _ (by first | assumption | exact Rds.below hx (by (repeat' (first | exact Below.refl _ _ | assumption | refine Below.setCell ?_ ?_ _ | refine Below.drew ?_ | refine Below.alloc ?_ ?_ _ | refine Below.trans ?_ (Below.mono (by assumption) ?_) | (simp; done) | (simp; omega) | omega)))) (by omega)).mono ?_; rintro e w' ⟨rfl, hb⟩; have hc := cellOf hb; have hf := frozOf hb; have hz := sizeOf hb; try simp at hz) | (go_at_call 57; refine (c_spec_l1In _ _ _ _ ).mono ?_; rintro e w' ⟨rfl, hb⟩; have hc := cellOf hb; have hf := frozOf hb; have hz := sizeOf hb; try simp at hz))
  go_loopw [13] (fun i wr => ∃ j : Nat, i = .int .i64 (f + (j : Int)) ∧ f + (j : Int) ≤ 500 ∧ (∀ y : Nat, y < j → rowFree xs l s (f + (y : Int)) n = none) ∧ Below w.heap.size w wr) (fun i _ => (501 - intOf i).toNat)
  case atStart => exact ⟨0, by simp, by omega, fun y hy => absurd hy (Nat.not_lt_zero y), by (repeat' (first | exact Below.refl _ _ | assumption | refine Below.setCell ?_ ?_ _ | refine Below.drew ?_ | refine Below.alloc ?_ ?_ _ | refine Below.trans ?_ (Below.mono (by assumption) ?_) | (simp; done) | (simp; omega) | omega))⟩
  case round =>
    obtain ⟨j, rfl, hj, hl, hbr⟩ := hrel
    have hc := cellOf hbr
    have hf := frozOf hbr
    have hz := sizeOf hbr
    have HL := hid hl
    clear hl
    by_cases hjs : f + (j : Int) + s ≤ 500
    · have hjs' : f + (j : Int) ≤ 500 - s := by omega
      go_wp2_with (fail)
      go_loopw [14] (fun i wv => ∃ c : Nat, i = .int .i64 (c : Int) ∧ c ≤ n ∧ (∀ y : Nat, y < c → meets xs (y : Int) l (f + (j : Int)) (f + (j : Int) + s) = true) ∧ Below w.heap.size w wv) (fun i _ => n - (intOf i).toNat)
      case atStart => exact ⟨0, rfl, Nat.zero_le _, fun y hy => absurd hy (Nat.not_lt_zero y), by (repeat' (first | exact Below.refl _ _ | assumption | refine Below.setCell ?_ ?_ _ | refine Below.drew ?_ | refine Below.alloc ?_ ?_ _ | refine Below.trans ?_ (Below.mono (by assumption) ?_) | (simp; done) | (simp; omega) | omega))⟩
      case round =>
        obtain ⟨c, rfl, hcn, hm, hbv⟩ := hrel
        clear hc hf hz
        have hc := cellOf hbv
        have hf := frozOf hbv
        have hz := sizeOf hbv
        have HM := hid hm
        clear hm
        by_cases hcl : (c : Int) + l ≤ q
        · have hcn2 := (hn1 c).2 hcl
          clear hn1
          by_cases hme : meets xs (c : Int) l (f + (j : Int)) (f + (j : Int) + s) = true
          · have HE := hid hme
            go_wp2_with (first | (go_at_call 58; refine (c_spec_l16Fits _ _ _ _ _ _ _ _ _ (by first | assumption | exact Rds.below hx (by (repeat' (first | exact Below.refl _ _ | assumption | refine Below.setCell ?_ ?_ _ | refine Below.drew ?_ | refine Below.alloc ?_ ?_ _ | refine Below.trans ?_ (Below.mono (by assumption) ?_) | (simp; done) | (simp; omega) | omega)))) (by omega) hok (by omega)).mono ?_; rintro e w' ⟨rfl, hb⟩; have hc := cellOf hb; have hf := frozOf hb; have hz := sizeOf hb; try simp at hz))
            go_roundw
            case rel =>
              refine ⟨c + 1, by go_num, by omega, fun y hy => ?_, by (repeat' (first | exact Below.refl _ _ | assumption | refine Below.setCell ?_ ?_ _ | refine Below.drew ?_ | refine Below.alloc ?_ ?_ _ | refine Below.trans ?_ (Below.mono (by assumption) ?_) | (simp; done) | (simp; omega) | omega))⟩
              by_cases hyc : y < c
              · exact HM.out y hyc
              · obtain rfl : y = c := by omega
                exact HE.out
            case measure => simp [intOf]; omega
          · have hmf : meets xs (c : Int) l (f + (j : Int)) (f + (j : Int) + s) = false := by simpa using hme
            have HE := hid (HV.out.trans (by rw [earlyF_hit (j := j) (c := c) (by omega) (fun y hy => by rw [← HN.out]; exact HL.out y hy) (by rw [← HN.out]; exact rowFree_hit hcn2 HM.out hmf)]))
            clear hme
            go_wp2_with (first | (go_at_call 58; refine (c_spec_l16Fits _ _ _ _ _ _ _ _ _ (by first | assumption | exact Rds.below hx (by (repeat' (first | exact Below.refl _ _ | assumption | refine Below.setCell ?_ ?_ _ | refine Below.drew ?_ | refine Below.alloc ?_ ?_ _ | refine Below.trans ?_ (Below.mono (by assumption) ?_) | (simp; done) | (simp; omega) | omega)))) (by omega) hok (by omega)).mono ?_; rintro e w' ⟨rfl, hb⟩; have hc := cellOf hb; have hf := frozOf hb; have hz := sizeOf hb; try simp at hz))
            go_ret3
            exact ⟨by first | (rw [HE.out]; done) | (rw [HE.out]; rfl), by (repeat' (first | exact Below.refl _ _ | assumption | refine Below.setCell ?_ ?_ _ | refine Below.drew ?_ | refine Below.alloc ?_ ?_ _ | refine Below.trans ?_ (Below.mono (by assumption) ?_) | (simp; done) | (simp; omega) | omega))⟩
        · have hcn2 : c = n := by have := hn1 c; omega
          have HE := hid (rowFree_none (xs := xs) (l := l) (s := s) (h := f + (j : Int)) (n := n) (by rw [← hcn2]; exact HM.out))
          clear hn1
          go_wp2_with (fail)
          go_roundw
          case rel =>
            refine ⟨j + 1, by go_num, by omega, fun y hy => ?_, by (repeat' (first | exact Below.refl _ _ | assumption | refine Below.setCell ?_ ?_ _ | refine Below.drew ?_ | refine Below.alloc ?_ ?_ _ | refine Below.trans ?_ (Below.mono (by assumption) ?_) | (simp; done) | (simp; omega) | omega))⟩
            by_cases hyc : y < j
            · exact HL.out y hyc
            · obtain rfl : y = j := by omega
              exact HE.out
          case measure => simp [intOf]; omega
    · have HE := hid (HV.out.trans (by rw [earlyF_none (fun y hy => by rw [← HN.out]; exact HL.out y (by omega))]))
      have hjs' : ¬ f + (j : Int) ≤ 500 - s := by omega
      clear hn1
      go_wp2_with (fail)
      go_ret3
      exact ⟨by first | (rw [HE.out]; done) | (rw [HE.out]; rfl), by (repeat' (first | exact Below.refl _ _ | assumption | refine Below.setCell ?_ ?_ _ | refine Below.drew ?_ | refine Below.alloc ?_ ?_ _ | refine Below.trans ?_ (Below.mono (by assumption) ?_) | (simp; done) | (simp; omega) | omega))⟩

end Go.Proofs.Ytfipmalomhflgaa
namespace Go.Proofs.Ytfipmalomhflgaa
set_option linter.unusedSimpArgs false
set_option linter.unusedVariables false
open Go.RowKit

set_option maxRecDepth 100000 in
set_option maxHeartbeats 4000000 in
theorem c_impl_LongestFree (q : Int) (A : Option Addr) (xs : List (Int × Int × Int × Int × Int)) (cap : Nat) (c : Int) (w : World) (hx : Rds cBer 5 w A xs) (hn : xs.length ≤ 9223372036854775807) (hcap : xs.length ≤ cap) (hmax : cap ≤ 9223372036854775807) :
    Calls Try.prog 26 #[.int .i64 q, .slice A xs.length cap, .int .i64 c] w fun e w' => e = .returned (.tuple #[.int .i64 (longV q xs c).1, .int .i64 (longV q xs c).2.1, .bool (longV q xs c).2.2]) ∧ Below w.heap.size w w' := by
  by_cases hs0 : berV q xs = true
  rotate_left
  · have hn0 : berV q xs = false := Bool.eq_false_iff.2 hs0
    have HV := hid (show longV q xs c = (0, 0, false) by simp [longV, hn0])
    clear hs0
    go_enter Try.func26, Try.ntmps26
    go_wp2_with (first | (go_at_call 17; refine (c_impl_IsBerthing _ _ _ _ _ (by first | assumption | exact Rds.below hx (by (repeat' (first | exact Below.refl _ _ | assumption | refine Below.setCell ?_ ?_ _ | refine Below.drew ?_ | refine Below.alloc ?_ ?_ _ | refine Below.trans ?_ (Below.mono (by assumption) ?_) | (simp; done) | (simp; omega) | omega)))) (by omega) (by omega) (by omega)).mono ?_; rintro e w' ⟨rfl, hb⟩; have hc := cellOf hb; have hf := frozOf hb; have hz := sizeOf hb; try simp at hz) | (go_at_call 53; refine (c_impl_inside _ _ _ _ ).mono ?_; rintro e w' ⟨rfl, hb⟩; have hc := cellOf hb; have hf := frozOf hb; have hz := sizeOf hb; try simp at hz))
    all_goals go_ret3
    all_goals exact ⟨by first | (rw [HV.out]; done) | (rw [HV.out]; rfl), by (repeat' (first | exact Below.refl _ _ | assumption | refine Below.setCell ?_ ?_ _ | refine Below.drew ?_ | refine Below.alloc ?_ ?_ _ | refine Below.trans ?_ (Below.mono (by assumption) ?_) | (simp; done) | (simp; omega) | omega))⟩
  have hqb := inB_bd (berV_quay hs0)
  by_cases hs1 : inB c 0 (q - 1) = true
  rotate_left
  · have hn1 : inB c 0 (q - 1) = false := Bool.eq_false_iff.2 hs1
    have HV := hid (show longV q xs c = (0, 0, false) by simp [longV, hn1])
    clear hs1
    go_enter Try.func26, Try.ntmps26
    go_wp2_with (first | (go_at_call 17; refine (c_impl_IsBerthing _ _ _ _ _ (by first | assumption | exact Rds.below hx (by (repeat' (first | exact Below.refl _ _ | assumption | refine Below.setCell ?_ ?_ _ | refine Below.drew ?_ | refine Below.alloc ?_ ?_ _ | refine Below.trans ?_ (Below.mono (by assumption) ?_) | (simp; done) | (simp; omega) | omega)))) (by omega) (by omega) (by omega)).mono ?_; rintro e w' ⟨rfl, hb⟩; have hc := cellOf hb; have hf := frozOf hb; have hz := sizeOf hb; try simp at hz) | (go_at_call 53; refine (c_impl_inside _ _ _ _ ).mono ?_; rintro e w' ⟨rfl, hb⟩; have hc := cellOf hb; have hf := frozOf hb; have hz := sizeOf hb; try simp at hz))
    all_goals go_ret3
    all_goals exact ⟨by first | (rw [HV.out]; done) | (rw [HV.out]; rfl), by (repeat' (first | exact Below.refl _ _ | assumption | refine Below.setCell ?_ ?_ _ | refine Below.drew ?_ | refine Below.alloc ?_ ?_ _ | refine Below.trans ?_ (Below.mono (by assumption) ?_) | (simp; done) | (simp; omega) | omega))⟩
  have hcb := inB_bd hs1
  have hok := berV_P hs0
  obtain ⟨N, hN⟩ : ∃ N : Nat, N = 500 := ⟨_, rfl⟩
  have HV := hid (show longV q xs c = ((longTo xs c N).1, (longTo xs c N).2.1, decide (0 < (longTo xs c N).2.1)) by simp [longV, hs0, hs1, hN])
  go_enter Try.func26, Try.ntmps26
  go_wp2_with (first | (go_at_call 17; refine (c_impl_IsBerthing _ _ _ _ _ (by first | assumption | exact Rds.below hx (by (repeat' (first | exact Below.refl _ _ | assumption | refine Below.setCell ?_ ?_ _ | refine Below.drew ?_ | refine Below.alloc ?_ ?_ _ | refine Below.trans ?_ (Below.mono (by assumption) ?_) | (simp; done) | (simp; omega) | omega)))) (by omega) (by omega) (by omega)).mono ?_; rintro e w' ⟨rfl, hb⟩; have hc := cellOf hb; have hf := frozOf hb; have hz := sizeOf hb; try simp at hz) | (go_at_call 53; refine (c_impl_inside _ _ _ _ ).mono ?_; rintro e w' ⟨rfl, hb⟩; have hc := cellOf hb; have hf := frozOf hb; have hz := sizeOf hb; try simp at hz))
  go_loopw [9, 10, 11, 24] (fun b m f i wr => ∃ k : Nat, k ≤ N ∧ i = .int .i64 k ∧ b = .int .i64 (longTo xs c k).1 ∧ m = .int .i64 (longTo xs c k).2.1 ∧ f = .int .i64 ((k : Int) - (longTo xs c k).2.2) ∧ Below w.heap.size w wr) (fun _ _ _ i _ => N - (intOf i).toNat)
  case atStart => exact ⟨0, Nat.zero_le _, rfl, rfl, rfl, rfl, by (repeat' (first | exact Below.refl _ _ | assumption | refine Below.setCell ?_ ?_ _ | refine Below.drew ?_ | refine Below.alloc ?_ ?_ _ | refine Below.trans ?_ (Below.mono (by assumption) ?_) | (simp; done) | (simp; omega) | omega))⟩
  case round =>
    obtain ⟨k, hk, rfl, rfl, rfl, rfl, hbr⟩ := hrel
    have hc := cellOf hbr
    have hf := frozOf hbr
    have hz := sizeOf hbr
    have ho := longTo_ok xs c k
    unfold longOk at ho
    have HS := hid (longTo_succ xs c k)
    by_cases hlt : k < N
    · generalize longTo xs c k = a at *
      by_cases hfr : freeAt xs c k = true
      · skip
        by_cases hm : a.2.1 < a.2.2 + 1
        · have HS2 := hid (HS.out.trans (show longS xs c a k = ((k : Int) - (a.2.2 + 1) + 1, a.2.2 + 1, a.2.2 + 1) by simp [longS, hfr, hm]))
          skip
          go_wp2_with (first | (go_at_call 61; refine (c_impl_isFree _ _ _ _ _ _ (by first | assumption | exact Rds.below hx (by (repeat' (first | exact Below.refl _ _ | assumption | refine Below.setCell ?_ ?_ _ | refine Below.drew ?_ | refine Below.alloc ?_ ?_ _ | refine Below.trans ?_ (Below.mono (by assumption) ?_) | (simp; done) | (simp; omega) | omega)))) (by omega) hok (by omega)).mono ?_; rintro e w' ⟨rfl, hb⟩; have hc := cellOf hb; have hf := frozOf hb; have hz := sizeOf hb; try simp at hz))
          go_roundw
          case rel => exact ⟨k + 1, by omega, by go_num, by first | (rw [HS2.out]; done) | (rw [HS2.out]; exact int_eq (by (try dsimp only); omega)), by first | (rw [HS2.out]; done) | (rw [HS2.out]; exact int_eq (by (try dsimp only); omega)), by first | (rw [HS2.out]; done) | (rw [HS2.out]; exact int_eq (by (try dsimp only); omega)), by (repeat' (first | exact Below.refl _ _ | assumption | refine Below.setCell ?_ ?_ _ | refine Below.drew ?_ | refine Below.alloc ?_ ?_ _ | refine Below.trans ?_ (Below.mono (by assumption) ?_) | (simp; done) | (simp; omega) | omega))⟩
          case measure => simp [intOf]; omega
        · have HS2 := hid (HS.out.trans (show longS xs c a k = (a.1, a.2.1, a.2.2 + 1) by simp [longS, hfr, hm]))
          skip
          go_wp2_with (first | (go_at_call 61; refine (c_impl_isFree _ _ _ _ _ _ (by first | assumption | exact Rds.below hx (by (repeat' (first | exact Below.refl _ _ | assumption | refine Below.setCell ?_ ?_ _ | refine Below.drew ?_ | refine Below.alloc ?_ ?_ _ | refine Below.trans ?_ (Below.mono (by assumption) ?_) | (simp; done) | (simp; omega) | omega)))) (by omega) hok (by omega)).mono ?_; rintro e w' ⟨rfl, hb⟩; have hc := cellOf hb; have hf := frozOf hb; have hz := sizeOf hb; try simp at hz))
          go_roundw
          case rel => exact ⟨k + 1, by omega, by go_num, by first | (rw [HS2.out]; done) | (rw [HS2.out]; rfl), by first | (rw [HS2.out]; done) | (rw [HS2.out]; rfl), by first | (rw [HS2.out]; done) | (rw [HS2.out]; exact int_eq (by (try dsimp only); omega)), by (repeat' (first | exact Below.refl _ _ | assumption | refine Below.setCell ?_ ?_ _ | refine Below.drew ?_ | refine Below.alloc ?_ ?_ _ | refine Below.trans ?_ (Below.mono (by assumption) ?_) | (simp; done) | (simp; omega) | omega))⟩
          case measure => simp [intOf]; omega
      · have hfn : freeAt xs c k = false := by simpa using hfr
        have hm : ¬ a.2.1 < 0 := by omega
        have HS2 := hid (HS.out.trans (show longS xs c a k = (a.1, a.2.1, 0) by simp [longS, hfn, hm]))
        clear hfr
        go_wp2_with (first | (go_at_call 61; refine (c_impl_isFree _ _ _ _ _ _ (by first | assumption | exact Rds.below hx (by (repeat' (first | exact Below.refl _ _ | assumption | refine Below.setCell ?_ ?_ _ | refine Below.drew ?_ | refine Below.alloc ?_ ?_ _ | refine Below.trans ?_ (Below.mono (by assumption) ?_) | (simp; done) | (simp; omega) | omega)))) (by omega) hok (by omega)).mono ?_; rintro e w' ⟨rfl, hb⟩; have hc := cellOf hb; have hf := frozOf hb; have hz := sizeOf hb; try simp at hz))
        go_roundw
        case rel => exact ⟨k + 1, by omega, by go_num, by first | (rw [HS2.out]; done) | (rw [HS2.out]; rfl), by first | (rw [HS2.out]; done) | (rw [HS2.out]; rfl), by first | (rw [HS2.out]; done) | (rw [HS2.out]; exact int_eq (by (try dsimp only); omega)), by (repeat' (first | exact Below.refl _ _ | assumption | refine Below.setCell ?_ ?_ _ | refine Below.drew ?_ | refine Below.alloc ?_ ?_ _ | refine Below.trans ?_ (Below.mono (by assumption) ?_) | (simp; done) | (simp; omega) | omega))⟩
        case measure => simp [intOf]; omega
    · obtain rfl : k = N := by omega
      generalize longTo xs c k = a at *
      by_cases hm : a.2.1 = 0
      · have HV2 : Hid (longV q xs c = (0, 0, false)) := HV.out.trans (by rw [ho.2.2.2.2.2.2 hm, hm]; rfl)
        have ha1 := ho.2.2.2.2.2.2 hm
        go_wp2_with (fail)
        go_ret3
        exact ⟨by rw [HV2.out]; first | rfl | simp [ha1, hm], by (repeat' (first | exact Below.refl _ _ | assumption | refine Below.setCell ?_ ?_ _ | refine Below.drew ?_ | refine Below.alloc ?_ ?_ _ | refine Below.trans ?_ (Below.mono (by assumption) ?_) | (simp; done) | (simp; omega) | omega))⟩
      · have HV2 : Hid (longV q xs c = (a.1, a.2.1, true)) := HV.out.trans (by rw [show decide (0 < a.2.1) = true by simp; omega])
        have hmp : 0 < a.2.1 := by omega
        go_wp2_with (fail)
        go_ret3
        exact ⟨by rw [HV2.out]; first | rfl | simp [hmp], by (repeat' (first | exact Below.refl _ _ | assumption | refine Below.setCell ?_ ?_ _ | refine Below.drew ?_ | refine Below.alloc ?_ ?_ _ | refine Below.trans ?_ (Below.mono (by assumption) ?_) | (simp; done) | (simp; omega) | omega))⟩

end Go.Proofs.Ytfipmalomhflgaa
namespace Go.Proofs.Ytfipmalomhflgaa
set_option linter.unusedSimpArgs false
set_option linter.unusedVariables false
open Go.RowKit

set_option maxRecDepth 100000 in
set_option maxHeartbeats 4000000 in
theorem c_spec_LongestFree (q : Int) (A : Option Addr) (xs : List (Int × Int × Int × Int × Int)) (cap : Nat) (c : Int) (w : World) (hx : Rds cBer 5 w A xs) (hn : xs.length ≤ 9223372036854775807)  :
    Calls Try.prog 25 #[.int .i64 q, .slice A xs.length cap, .int .i64 c] w fun e w' => e = .returned (.tuple #[.int .i64 (longV q xs c).1, .int .i64 (longV q xs c).2.1, .bool (longV q xs c).2.2]) ∧ Below w.heap.size w w' := by
  by_cases hs0 : berV q xs = true
  rotate_left
  · have hn0 : berV q xs = false := Bool.eq_false_iff.2 hs0
    have HV := hid (show longV q xs c = (0, 0, false) by simp [longV, hn0])
    clear hs0
    go_enter Try.func25, Try.ntmps25
    go_wp2_with (first | (go_at_call 52; refine (c_spec_l16Good _ _ _ _ _ (by first | assumption | exact Rds.below hx (by (repeat' (first | exact Below.refl _ _ | assumption | refine Below.setCell ?_ ?_ _ | refine Below.drew ?_ | refine Below.alloc ?_ ?_ _ | refine Below.trans ?_ (Below.mono (by assumption) ?_) | (simp; done) | (simp; omega) | omega)))) (by omega)).mono ?_; rintro e w' ⟨rfl, hb⟩; have hc := cellOf hb; have hf := frozOf hb; have hz := sizeOf hb; try simp at hz) | (go_at_call 57; refine (c_spec_l1In _ _ _ _ ).mono ?_; rintro e w' ⟨rfl, hb⟩; have hc := cellOf hb; have hf := frozOf hb; have hz := sizeOf hb; try simp at hz))
    all_goals go_ret3
    all_goals exact ⟨by first | (rw [HV.out]; done) | (rw [HV.out]; rfl), by (repeat' (first | exact Below.refl _ _ | assumption | refine Below.setCell ?_ ?_ _ | refine Below.drew ?_ | refine Below.alloc ?_ ?_ _ | refine Below.trans ?_ (Below.mono (by assumption) ?_) | (simp; done) | (simp; omega) | omega))⟩
  have hqb := inB_bd (berV_quay hs0)
  by_cases hs1 : inB c 0 (q - 1) = true
  rotate_left
  · have hn1 : inB c 0 (q - 1) = false := Bool.eq_false_iff.2 hs1
    have HV := hid (show longV q xs c = (0, 0, false) by simp [longV, hn1])
    clear hs1
    go_enter Try.func25, Try.ntmps25
    go_wp2_with (first | (go_at_call 52; refine (c_spec_l16Good _ _ _ _ _ (by first | assumption | exact Rds.below hx (by (repeat' (first | exact Below.refl _ _ | assumption | refine Below.setCell ?_ ?_ _ | refine Below.drew ?_ | refine Below.alloc ?_ ?_ _ | refine Below.trans ?_ (Below.mono (by assumption) ?_) | (simp; done) | (simp; omega) | omega)))) (by omega)).mono ?_; rintro e w' ⟨rfl, hb⟩; have hc := cellOf hb; have hf := frozOf hb; have hz := sizeOf hb; try simp at hz) | (go_at_call 57; refine (c_spec_l1In _ _ _ _ ).mono ?_; rintro e w' ⟨rfl, hb⟩; have hc := cellOf hb; have hf := frozOf hb; have hz := sizeOf hb; try simp at hz))
    all_goals go_ret3
    all_goals exact ⟨by first | (rw [HV.out]; done) | (rw [HV.out]; rfl), by (repeat' (first | exact Below.refl _ _ | assumption | refine Below.setCell ?_ ?_ _ | refine Below.drew ?_ | refine Below.alloc ?_ ?_ _ | refine Below.trans ?_ (Below.mono (by assumption) ?_) | (simp; done) | (simp; omega) | omega))⟩
  have hcb := inB_bd hs1
  have hok := berV_P hs0
  obtain ⟨N, hN⟩ : ∃ N : Nat, N = 500 := ⟨_, rfl⟩
  have HV := hid (show longV q xs c = ((longTo xs c N).1, (longTo xs c N).2.1, decide (0 < (longTo xs c N).2.1)) by simp [longV, hs0, hs1, hN])
  go_enter Try.func25, Try.ntmps25
  go_wp2_with (first | (go_at_call 52; refine (c_spec_l16Good _ _ _ _ _ (by first | assumption | exact Rds.below hx (by (repeat' (first | exact Below.refl _ _ | assumption | refine Below.setCell ?_ ?_ _ | refine Below.drew ?_ | refine Below.alloc ?_ ?_ _ | refine Below.trans ?_ (Below.mono (by assumption) ?_) | (simp; done) | (simp; omega) | omega)))) (by omega)).mono ?_; rintro e w' ⟨rfl, hb⟩; have hc := cellOf hb; have hf := frozOf hb; have hz := sizeOf hb; try simp at hz) | (go_at_call 57; refine (c_spec_l1In _ _ _ _ ).mono ?_; rintro e w' ⟨rfl, hb⟩; have hc := cellOf hb; have hf := frozOf hb; have hz := sizeOf hb; try simp at hz))
  go_loopw [9, 10, 11, 12] (fun b m f i wr => ∃ k : Nat, k ≤ N ∧ i = .int .i64 k ∧ b = .int .i64 (longTo xs c k).1 ∧ m = .int .i64 (longTo xs c k).2.1 ∧ f = .int .i64 ((longTo xs c k).2.2) ∧ Below w.heap.size w wr) (fun _ _ _ i _ => N - (intOf i).toNat)
  case atStart => exact ⟨0, Nat.zero_le _, rfl, rfl, rfl, rfl, by (repeat' (first | exact Below.refl _ _ | assumption | refine Below.setCell ?_ ?_ _ | refine Below.drew ?_ | refine Below.alloc ?_ ?_ _ | refine Below.trans ?_ (Below.mono (by assumption) ?_) | (simp; done) | (simp; omega) | omega))⟩
  case round =>
    obtain ⟨k, hk, rfl, rfl, rfl, rfl, hbr⟩ := hrel
    have hc := cellOf hbr
    have hf := frozOf hbr
    have hz := sizeOf hbr
    have ho := longTo_ok xs c k
    unfold longOk at ho
    have HS := hid (longTo_succ xs c k)
    by_cases hlt : k < N
    · generalize longTo xs c k = a at *
      by_cases hfr : freeAt xs c k = true
      · have hme : meets xs c 1 k (k + 1) = false := by simpa [freeAt] using hfr
        by_cases hm : a.2.1 < a.2.2 + 1
        · have HS2 := hid (HS.out.trans (show longS xs c a k = ((k : Int) - (a.2.2 + 1) + 1, a.2.2 + 1, a.2.2 + 1) by simp [longS, hfr, hm]))
          skip
          go_wp2_with (first | (go_at_call 60; refine (c_spec_l16Used _ _ _ _ _ _ (by first | assumption | exact Rds.below hx (by (repeat' (first | exact Below.refl _ _ | assumption | refine Below.setCell ?_ ?_ _ | refine Below.drew ?_ | refine Below.alloc ?_ ?_ _ | refine Below.trans ?_ (Below.mono (by assumption) ?_) | (simp; done) | (simp; omega) | omega)))) (by omega) hok (by omega)).mono ?_; rintro e w' ⟨rfl, hb⟩; have hc := cellOf hb; have hf := frozOf hb; have hz := sizeOf hb; try simp at hz))
          go_roundw
          case rel => exact ⟨k + 1, by omega, by go_num, by first | (rw [HS2.out]; done) | (rw [HS2.out]; exact int_eq (by (try dsimp only); omega)), by first | (rw [HS2.out]; done) | (rw [HS2.out]; exact int_eq (by (try dsimp only); omega)), by first | (rw [HS2.out]; done) | (rw [HS2.out]; exact int_eq (by (try dsimp only); omega)), by (repeat' (first | exact Below.refl _ _ | assumption | refine Below.setCell ?_ ?_ _ | refine Below.drew ?_ | refine Below.alloc ?_ ?_ _ | refine Below.trans ?_ (Below.mono (by assumption) ?_) | (simp; done) | (simp; omega) | omega))⟩
          case measure => simp [intOf]; omega
        · have HS2 := hid (HS.out.trans (show longS xs c a k = (a.1, a.2.1, a.2.2 + 1) by simp [longS, hfr, hm]))
          skip
          go_wp2_with (first | (go_at_call 60; refine (c_spec_l16Used _ _ _ _ _ _ (by first | assumption | exact Rds.below hx (by (repeat' (first | exact Below.refl _ _ | assumption | refine Below.setCell ?_ ?_ _ | refine Below.drew ?_ | refine Below.alloc ?_ ?_ _ | refine Below.trans ?_ (Below.mono (by assumption) ?_) | (simp; done) | (simp; omega) | omega)))) (by omega) hok (by omega)).mono ?_; rintro e w' ⟨rfl, hb⟩; have hc := cellOf hb; have hf := frozOf hb; have hz := sizeOf hb; try simp at hz))
          go_roundw
          case rel => exact ⟨k + 1, by omega, by go_num, by first | (rw [HS2.out]; done) | (rw [HS2.out]; rfl), by first | (rw [HS2.out]; done) | (rw [HS2.out]; rfl), by first | (rw [HS2.out]; done) | (rw [HS2.out]; exact int_eq (by (try dsimp only); omega)), by (repeat' (first | exact Below.refl _ _ | assumption | refine Below.setCell ?_ ?_ _ | refine Below.drew ?_ | refine Below.alloc ?_ ?_ _ | refine Below.trans ?_ (Below.mono (by assumption) ?_) | (simp; done) | (simp; omega) | omega))⟩
          case measure => simp [intOf]; omega
      · have hfn : freeAt xs c k = false := by simpa using hfr
        have hm : ¬ a.2.1 < 0 := by omega
        have HS2 := hid (HS.out.trans (show longS xs c a k = (a.1, a.2.1, 0) by simp [longS, hfn, hm]))
        have hme : meets xs c 1 k (k + 1) = true := by simpa [freeAt] using hfn
        clear hfr
        go_wp2_with (first | (go_at_call 60; refine (c_spec_l16Used _ _ _ _ _ _ (by first | assumption | exact Rds.below hx (by (repeat' (first | exact Below.refl _ _ | assumption | refine Below.setCell ?_ ?_ _ | refine Below.drew ?_ | refine Below.alloc ?_ ?_ _ | refine Below.trans ?_ (Below.mono (by assumption) ?_) | (simp; done) | (simp; omega) | omega)))) (by omega) hok (by omega)).mono ?_; rintro e w' ⟨rfl, hb⟩; have hc := cellOf hb; have hf := frozOf hb; have hz := sizeOf hb; try simp at hz))
        go_roundw
        case rel => exact ⟨k + 1, by omega, by go_num, by first | (rw [HS2.out]; done) | (rw [HS2.out]; rfl), by first | (rw [HS2.out]; done) | (rw [HS2.out]; rfl), by first | (rw [HS2.out]; done) | (rw [HS2.out]; exact int_eq (by (try dsimp only); omega)), by (repeat' (first | exact Below.refl _ _ | assumption | refine Below.setCell ?_ ?_ _ | refine Below.drew ?_ | refine Below.alloc ?_ ?_ _ | refine Below.trans ?_ (Below.mono (by assumption) ?_) | (simp; done) | (simp; omega) | omega))⟩
        case measure => simp [intOf]; omega
    · obtain rfl : k = N := by omega
      generalize longTo xs c k = a at *
      by_cases hm : a.2.1 = 0
      · have HV2 : Hid (longV q xs c = (0, 0, false)) := HV.out.trans (by rw [ho.2.2.2.2.2.2 hm, hm]; rfl)
        have ha1 := ho.2.2.2.2.2.2 hm
        go_wp2_with (fail)
        go_ret3
        exact ⟨by rw [HV2.out]; first | rfl | simp [ha1, hm], by (repeat' (first | exact Below.refl _ _ | assumption | refine Below.setCell ?_ ?_ _ | refine Below.drew ?_ | refine Below.alloc ?_ ?_ _ | refine Below.trans ?_ (Below.mono (by assumption) ?_) | (simp; done) | (simp; omega) | omega))⟩
      · have HV2 : Hid (longV q xs c = (a.1, a.2.1, true)) := HV.out.trans (by rw [show decide (0 < a.2.1) = true by simp; omega])
        have hmp : 0 < a.2.1 := by omega
        go_wp2_with (fail)
        go_ret3
        exact ⟨by rw [HV2.out]; first | rfl | simp [hmp], by (repeat' (first | exact Below.refl _ _ | assumption | refine Below.setCell ?_ ?_ _ | refine Below.drew ?_ | refine Below.alloc ?_ ?_ _ | refine Below.trans ?_ (Below.mono (by assumption) ?_) | (simp; done) | (simp; omega) | omega))⟩

end Go.Proofs.Ytfipmalomhflgaa
