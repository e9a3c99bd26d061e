import Derived.Test.YtgjbdcalmodhpaaD7
import Derived.Test.YtgjbdcalmodhpaaD4
import Derived.Test.YtgjbdcalmodhpaaP2
namespace Go.Proofs.Ytgjbdcalmodhpaa
set_option linter.unusedSimpArgs false
set_option linter.unusedVariables false
open Go.RowKit

set_option maxRecDepth 100000 in
set_option maxHeartbeats 4000000 in
theorem c_impl_DelayInTurn (A : Option Addr) (xs : List (Int × Bool × Int × Int)) (cap : Nat) (g : Int) (w : World) (hx : Rds cPas 4 w A xs) (hn : xs.length ≤ 9223372036854775807) :
    Calls Try.prog 34 #[.slice A xs.length cap, .int .i64 g] w fun e w' => ∃ A' cap', e = .returned (.tuple #[.slice A' (turnV xs g).1.length cap', .bool (turnV xs g).2]) ∧ FreshA cPas 4 26 w.heap.size w' A' cap' (turnV xs g).1 ∧ Below w.heap.size w w' := by
  obtain ⟨i0, hI0, hI1, hI2, hI3⟩ := info_parts info_Pas
  by_cases hs0 : vB pOk pLt 6 xs = true
  rotate_left
  · have hn0 : vB pOk pLt 6 xs = false := by simpa using hs0
    have hV : turnV xs g = ([], false) := by simp [turnV, hn0]
    simp only [hV]
    clear hs0 hV
    go_enter Try.func34, Try.ntmps34
    go_wp2_with (first | (go_at_call 19; refine (c_impl_ArePassages _ _ _ _ (by first | assumption | exact Rds.below hx (by (repeat' (first | exact Below.refl _ _ | assumption | refine Below.setCell ?_ ?_ _ | refine Below.drew ?_ | refine Below.alloc ?_ ?_ _ | refine Below.trans ?_ (Below.mono (by assumption) ?_) | (simp; done) | (simp; omega) | omega)))) (by omega)).mono ?_; rintro e w' ⟨rfl, hb⟩; have hc := cellOf hb; have hf := frozOf hb; have hz := sizeOf hb; try simp at hz) | (go_at_call 56; refine (c_impl_isGap _ _ ).mono ?_; rintro e w' ⟨rfl, hb⟩; have hc := cellOf hb; have hf := frozOf hb; have hz := sizeOf hb; try simp at hz))
    all_goals go_ret2
    all_goals exact ⟨none, 0, rfl, .inl ⟨rfl, rfl, rfl⟩, by (repeat' (first | exact Below.refl _ _ | assumption | refine Below.setCell ?_ ?_ _ | refine Below.drew ?_ | refine Below.alloc ?_ ?_ _ | refine Below.trans ?_ (Below.mono (by assumption) ?_) | (simp; done) | (simp; omega) | omega))⟩
  by_cases hs1 : gapB g = true
  rotate_left
  · have hn1 : gapB g = false := by simpa using hs1
    have hV : turnV xs g = ([], false) := by simp [turnV, hn1]
    simp only [hV]
    clear hs1 hV
    go_enter Try.func34, Try.ntmps34
    go_wp2_with (first | (go_at_call 19; refine (c_impl_ArePassages _ _ _ _ (by first | assumption | exact Rds.below hx (by (repeat' (first | exact Below.refl _ _ | assumption | refine Below.setCell ?_ ?_ _ | refine Below.drew ?_ | refine Below.alloc ?_ ?_ _ | refine Below.trans ?_ (Below.mono (by assumption) ?_) | (simp; done) | (simp; omega) | omega)))) (by omega)).mono ?_; rintro e w' ⟨rfl, hb⟩; have hc := cellOf hb; have hf := frozOf hb; have hz := sizeOf hb; try simp at hz) | (go_at_call 56; refine (c_impl_isGap _ _ ).mono ?_; rintro e w' ⟨rfl, hb⟩; have hc := cellOf hb; have hf := frozOf hb; have hz := sizeOf hb; try simp at hz))
    all_goals go_ret2
    all_goals exact ⟨none, 0, rfl, .inl ⟨rfl, rfl, rfl⟩, by (repeat' (first | exact Below.refl _ _ | assumption | refine Below.setCell ?_ ?_ _ | refine Below.drew ?_ | refine Below.alloc ?_ ?_ _ | refine Below.trans ?_ (Below.mono (by assumption) ?_) | (simp; done) | (simp; omega) | omega))⟩
  have hlen := vB_len hs0
  go_enter Try.func34, Try.ntmps34
  go_wp2_with (first | (go_at_call 19; refine (c_impl_ArePassages _ _ _ _ (by first | assumption | exact Rds.below hx (by (repeat' (first | exact Below.refl _ _ | assumption | refine Below.setCell ?_ ?_ _ | refine Below.drew ?_ | refine Below.alloc ?_ ?_ _ | refine Below.trans ?_ (Below.mono (by assumption) ?_) | (simp; done) | (simp; omega) | omega)))) (by omega)).mono ?_; rintro e w' ⟨rfl, hb⟩; have hc := cellOf hb; have hf := frozOf hb; have hz := sizeOf hb; try simp at hz) | (go_at_call 56; refine (c_impl_isGap _ _ ).mono ?_; rintro e w' ⟨rfl, hb⟩; have hc := cellOf hb; have hf := frozOf hb; have hz := sizeOf hb; try simp at hz))
  go_loopw [6, 22] (fun v i wr => ∃ (k : Nat) (A' : Option Addr) (cp : Nat) (out : List (Int × Bool × Int × Int)), k ≤ xs.length ∧ i = .int .i64 k ∧ v = .slice A' out.length cp ∧ FreshA cPas 4 26 w.heap.size wr A' cp out ∧ turnF g (xs.take k) = some out ∧ out.length = k ∧ (∀ q (hq : q < out.length), bdP out[q]) ∧ Below w.heap.size w wr) (fun _ i _ => xs.length - (intOf i).toNat)
  case atStart =>
    exact ⟨0, _, _, [], Nat.zero_le _, rfl, rfl, FreshA.new (by (try simp at *); omega), rfl, rfl, fun q hq => absurd hq (Nat.not_lt_zero q), by (repeat' (first | exact Below.refl _ _ | assumption | refine Below.setCell ?_ ?_ _ | refine Below.drew ?_ | refine Below.alloc ?_ ?_ _ | refine Below.trans ?_ (Below.mono (by assumption) ?_) | (simp; done) | (simp; omega) | omega))⟩
  case round =>
    obtain ⟨k, A', cp, out, hk, rfl, rfl, hF, hT, hol, hok, hbr⟩ := hrel
    have hol2 : out.length ≤ k := by omega
    have HOL := hid hol
    clear hol
    have hlo := hF.lo
    have hhi := hF.hi
    have hc := cellOf hbr
    have hf := frozOf hbr
    have hz := sizeOf hbr
    by_cases hlt : k < xs.length
    · obtain ⟨bx, ox, rfl, hbx, hcx⟩ := hx k xs[k] (List.getElem?_eq_getElem hlt)
      have hx0 := hcx 0 _ rfl
      have hx1 := hcx 1 _ rfl
      have hx2 := hcx 2 _ rfl
      have hx3 := hcx 3 _ rfl
      simp only [Nat.add_zero] at hx0
      have hgo := vB_at hs0 k hlt
      have HB := hid (fun h => turnF_bad (g := g) hlt hT h)
      have HS := hid (fun (y : Nat) h => turnF_step (g := g) (y := y) hlt hT h)
      clear hx hcx hT
      generalize hxk : xs[k] = x at *
      clear hxk
      have hpb := pasB_bd (show pasB x.1 x.2.1 x.2.2.1 x.2.2.2 = true from hgo)
      have HF := hid hF
      have HO := hid hok
      clear hF hok hgo
      cases hsm : smF out x.1 x.2.1 x.2.2.1 x.2.2.2 g with
      | none =>
        have e1 : smD out x.1 x.2.1 x.2.2.1 x.2.2.2 g = (0, false) := by simp [smD, hsm]
        have HV : Hid (turnV xs g = ([], false)) := by
          show _ = _
          simp [turnV, HB.out hsm]
        clear hsm
        go_wp2_with (fail)
        refine (c_impl_smallestDelay _ _ _ _ _ _ _ _ _ (HF.out.rds.below (by (repeat' (first | exact Below.refl _ _ | assumption | refine Below.setCell ?_ ?_ _ | refine Below.drew ?_ | refine Below.alloc ?_ ?_ _ | refine Below.trans ?_ (Below.mono (by assumption) ?_) | (simp; done) | (simp; omega) | omega)))) (by omega) HO.out (by omega) hs1).mono ?_
        rintro e w2 ⟨rfl, hb2⟩
        simp only [e1]
        have hc2 := cellOf hb2
        have hf2 := frozOf hb2
        have hz2 := sizeOf hb2
        try simp at hz2
        go_wp2_with (fail)
        all_goals go_ret2
        all_goals simp only [HV.out]
        all_goals exact ⟨none, 0, rfl, .inl ⟨rfl, rfl, rfl⟩, by (repeat' (first | exact Below.refl _ _ | assumption | refine Below.setCell ?_ ?_ _ | refine Below.drew ?_ | refine Below.alloc ?_ ?_ _ | refine Below.trans ?_ (Below.mono (by assumption) ?_) | (simp; done) | (simp; omega) | omega))⟩
      | some y =>
        have e1 : smD out x.1 x.2.1 x.2.2.1 x.2.2.2 g = ((y : Int), true) := by simp [smD, hsm]
        have hsy := smF_some hsm
        have HT := hid (HS.out y hsm)
        clear hsm
        go_wp2_with (fail)
        refine (c_impl_smallestDelay _ _ _ _ _ _ _ _ _ (HF.out.rds.below (by (repeat' (first | exact Below.refl _ _ | assumption | refine Below.setCell ?_ ?_ _ | refine Below.drew ?_ | refine Below.alloc ?_ ?_ _ | refine Below.trans ?_ (Below.mono (by assumption) ?_) | (simp; done) | (simp; omega) | omega)))) (by omega) HO.out (by omega) hs1).mono ?_
        rintro e w2 ⟨rfl, hb2⟩
        simp only [e1]
        have hc2 := cellOf hb2
        have hf2 := frozOf hb2
        have hz2 := sizeOf hb2
        try simp at hz2
        go_wp2_with (first | (go_at_call 73; refine (c_impl_delayed _ _ _ _ y _ (by omega) (by omega) (by omega)).mono ?_; rintro e w4 ⟨rfl, hb4⟩; have hc4 := cellOf hb4; have hf4 := frozOf hb4; have hz4 := sizeOf hb4; (try simp at hz4)) | (at_builtin; refine wpList_push rfl (.tmp 35) (.tmp 39) 32 rfl 26 i0 _ 4 32 Try.underlying32 hI0 hI1 hI2 hI3 rfl (by decide) (fun _ => rfl) one_Pas (w.heap.size) A' out.length cp (out) rfl rfl (HF.out.below (by (repeat' (first | exact Below.refl _ _ | assumption | refine Below.setCell ?_ ?_ _ | refine Below.drew ?_ | refine Below.alloc ?_ ?_ _ | refine Below.trans ?_ (Below.mono (by assumption) ?_) | (simp; done) | (simp; omega) | omega)))) ((x.1, x.2.1, x.2.2.1 + (y : Int), x.2.2.2 + (y : Int))) _ 1 rfl ?_ ?_ ?_ ?_ ?_; (refine news_Pas _ _ _ ?_ ?_ ?_ ?_ <;> simp [go_sem, ↓IntWalk.iteOmega]); (unfold maxLen; omega); omega; (simp; omega); intro A3 cp3 w3 hF3 hg3 hat3; have hc3 := cellGrown hg3 hlo hhi; have hf3 := frozGrown hg3 hlo hhi; have hs3 := hg3.size; (try simp at hs3); have hb3 := below_of_grown (B := w.heap.size) hg3 (hlo.mono (by omega)) (by simp; omega)))
        go_roundw
        case rel =>
          refine ⟨k + 1, A3, cp3, out ++ [later x y], by omega, by go_num, by simp, hF3, HT.out, by have := HOL.out; simp; omega, allq_snoc HO.out ?_, by (repeat' (first | exact Below.refl _ _ | assumption | refine Below.setCell ?_ ?_ _ | refine Below.drew ?_ | refine Below.alloc ?_ ?_ _ | refine Below.trans ?_ (Below.mono (by assumption) ?_) | (simp; done) | (simp; omega) | omega))⟩
          simp only [bdP, later]
          omega
        case measure => simp [intOf]; omega
    · obtain rfl : k = xs.length := by omega
      rw [List.take_length] at hT
      have HV : Hid (turnV xs g = (out, true)) := by
        show _ = _
        simp [turnV, hs0, hs1, hT]
      go_wp2_with (fail)
      go_ret2
      simp only [HV.out]
      exact ⟨_, _, rfl, hF, by (repeat' (first | exact Below.refl _ _ | assumption | refine Below.setCell ?_ ?_ _ | refine Below.drew ?_ | refine Below.alloc ?_ ?_ _ | refine Below.trans ?_ (Below.mono (by assumption) ?_) | (simp; done) | (simp; omega) | omega))⟩

end Go.Proofs.Ytgjbdcalmodhpaa
