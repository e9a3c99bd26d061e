import Derived.Test.YtfipmalomhflgaaQS03
import Derived.Test.YtfipmalomhflgaaQS11
namespace Go.Proofs.Ytfipmalomhflgaa
set_option linter.unusedSimpArgs false
set_option linter.unusedVariables false
open Go.RowKit

set_option maxRecDepth 100000 in
set_option maxHeartbeats 2000000 in
theorem c_spec_CellHours (q : Int) (A : Option Addr) (xs : List (Int × Int × Int × Int × Int)) (cap : Nat) (w : World) (hx : Rds cBer 5 w A xs) (hn : xs.length ≤ 9223372036854775807)  :
    Calls Try.prog 19 #[.int .i64 q, .slice A xs.length cap] w fun e w' => e = .returned (.tuple #[.int .i64 (hoursV q xs).1, .bool (hoursV q xs).2]) ∧ Below w.heap.size w w' := by
  by_cases hs0 : berV q xs = true
  rotate_left
  · have hn0 : berV q xs = false := Bool.eq_false_iff.2 hs0
    have HV := hid (show hoursV q xs = (0, false) by simp [hoursV, hn0])
    clear hs0
    go_enter Try.func19, Try.ntmps19
    go_wp2_with (first | (go_at_call 52; refine (c_spec_l16Good _ _ _ _ _ (by first | assumption | exact Rds.below hx (by (repeat' (first | exact Below.refl _ _ | assumption | refine Below.setCell ?_ ?_ _ | refine Below.drew ?_ | refine Below.alloc ?_ ?_ _ | refine Below.trans ?_ (Below.mono (by assumption) ?_) | (simp; done) | (simp; omega) | omega)))) (by omega)).mono ?_; rintro e w' ⟨rfl, hb⟩; have hc := cellOf hb; have hf := frozOf hb; have hz := sizeOf hb; try simp at hz))
    all_goals go_ret2
    all_goals exact ⟨by first | (rw [HV.out]; done) | (rw [HV.out]; rfl), by (repeat' (first | exact Below.refl _ _ | assumption | refine Below.setCell ?_ ?_ _ | refine Below.drew ?_ | refine Below.alloc ?_ ?_ _ | refine Below.trans ?_ (Below.mono (by assumption) ?_) | (simp; done) | (simp; omega) | omega))⟩
  have HV := hid (show hoursV q xs = (hoursTo xs xs.length, true) by simp [hoursV, hs0])
  have hlen := berV_len hs0
  go_enter Try.func19, Try.ntmps19
  go_wp2_with (first | (go_at_call 52; refine (c_spec_l16Good _ _ _ _ _ (by first | assumption | exact Rds.below hx (by (repeat' (first | exact Below.refl _ _ | assumption | refine Below.setCell ?_ ?_ _ | refine Below.drew ?_ | refine Below.alloc ?_ ?_ _ | refine Below.trans ?_ (Below.mono (by assumption) ?_) | (simp; done) | (simp; omega) | omega)))) (by omega)).mono ?_; rintro e w' ⟨rfl, hb⟩; have hc := cellOf hb; have hf := frozOf hb; have hz := sizeOf hb; try simp at hz))
  go_loopw [6, 7] (fun c i wr => ∃ k : Nat, k ≤ xs.length ∧ i = .int .i64 k ∧ c = .int .i64 (hoursTo xs k) ∧ Below w.heap.size w wr) (fun _ i _ => xs.length - (intOf i).toNat)
  case atStart => exact ⟨0, Nat.zero_le _, rfl, rfl, by (repeat' (first | exact Below.refl _ _ | assumption | refine Below.setCell ?_ ?_ _ | refine Below.drew ?_ | refine Below.alloc ?_ ?_ _ | refine Below.trans ?_ (Below.mono (by assumption) ?_) | (simp; done) | (simp; omega) | omega))⟩
  case round =>
    obtain ⟨k, hk, rfl, rfl, hbr⟩ := hrel
    have hc := cellOf hbr
    have hf := frozOf hbr
    have hz := sizeOf hbr
    by_cases hlt : k < xs.length
    · obtain ⟨bx, ox, rfl, hbx, hcx⟩ := hx k xs[k] (List.getElem?_eq_getElem hlt)
      have hx0 := hcx 0 _ rfl
      have hx1 := hcx 1 _ rfl
      have hx2 := hcx 2 _ rfl
      have hx3 := hcx 3 _ rfl
      have hx4 := hcx 4 _ rfl
      simp only [Nat.add_zero] at hx0
      have HS := hid (hoursTo_succ xs k hlt)
      have hxb := berOk_bd (berV_at hs0 k hlt)
      have hqb := inB_bd (berV_quay hs0)
      have hsb := hoursTo_bd hs0 k hk
      have hmb := mulB (l := xs[k].2.2.1) (d := xs[k].2.2.2.2 - xs[k].2.2.2.1) (by omega) (by omega)
      clear hcx hx
      generalize xs[k] = x at *
      go_wp2_with (fail)
      go_region
      go_wp2_with (fail)
      go_roundw
      case rel => exact ⟨k + 1, by omega, by go_num, by rw [HS.out], by (repeat' (first | exact Below.refl _ _ | assumption | refine Below.setCell ?_ ?_ _ | refine Below.drew ?_ | refine Below.alloc ?_ ?_ _ | refine Below.trans ?_ (Below.mono (by assumption) ?_) | (simp; done) | (simp; omega) | omega))⟩
      case measure => simp [intOf]; omega
    · obtain rfl : k = xs.length := by omega
      go_wp2_with (fail)
      go_ret2
      exact ⟨by first | (rw [HV.out]; done) | (rw [HV.out]; rfl), by (repeat' (first | exact Below.refl _ _ | assumption | refine Below.setCell ?_ ?_ _ | refine Below.drew ?_ | refine Below.alloc ?_ ?_ _ | refine Below.trans ?_ (Below.mono (by assumption) ?_) | (simp; done) | (simp; omega) | omega))⟩

end Go.Proofs.Ytfipmalomhflgaa
namespace Go.Proofs.Ytfipmalomhflgaa
set_option linter.unusedSimpArgs false
set_option linter.unusedVariables false
open Go.RowKit

set_option maxHeartbeats 2000000 in
theorem c_impl_LeaveEarly_1 (i c l f t z : Int) (bp : Nat) (w : World) (hp : w.cell? ⟨bp, 0, none⟩ = some (.int .i64 z)) (hlp : bp < w.heap.size) :
    Calls Try.prog 63 #[.agg #[.int .i64 (i), .int .i64 (c), .int .i64 (l), .int .i64 (f), .int .i64 (t)], .pointer (some ⟨bp, 0, none⟩)] w fun e w' => e = .returned (.bool (decide (i = z))) ∧ Below w.heap.size w w' := by
  go_enter Try.func63, Try.ntmps63
  go_wp2
  all_goals go_ret
  all_goals
    refine ⟨ret_bool ?_, ?_⟩
    · first | rfl | omega | (simp []; done) | (simp []; omega) | (simp []; (repeat' split) <;> (first | omega | (simp; done) | (simp; omega))) | (simp_all []; done) | (simp_all []; omega)
    · (repeat' (first | exact Below.refl _ _ | assumption | refine Below.setCell ?_ ?_ _ | refine Below.drew ?_ | refine Below.alloc ?_ ?_ _ | refine Below.trans ?_ (Below.mono (by assumption) ?_) | (simp; done) | (simp; omega) | omega))

set_option maxHeartbeats 2000000 in
theorem c_idx_same (A : Option Addr) (xs : List (Int × Int × Int × Int × Int)) (cap : Nat) (z : Int) (bp : Nat) (w : World) (h0 : Rds cBer 5 w A xs) (hn : xs.length ≤ 9223372036854775807) (hbp0 : w.cell? ⟨bp, 0, none⟩ = some (.int .i64 z)) (hlbp : bp < w.heap.size) :
    Calls Try.prog 62 #[.slice A xs.length cap, .func (.func 63) #[] #[.pointer (some ⟨bp, 0, none⟩)]] w fun e w' => e = .returned (.int .i64 (idxF (sameB z) xs)) ∧ Below w.heap.size w w' := by
  go_enter Try.func62, Try.ntmps62
  go_wp2_with (fail)
  go_loopw [5, 8] (fun _ i wr => ∃ k : Nat, k ≤ xs.length ∧ i = .int .i64 k ∧ (xs.take k).any (sameB z) = false ∧ Below w.heap.size w wr) (fun _ i _ => xs.length - (intOf i).toNat)
  case atStart => exact ⟨0, Nat.zero_le _, rfl, rfl, Below.refl _ _⟩
  case round =>
    obtain ⟨k, hk, rfl, hl, hbr⟩ := hrel
    have HT := hid hl
    clear hl
    by_cases hlt : k < xs.length
    · obtain ⟨bx, ox, rfl, hbx, hcx⟩ := h0 k xs[k] (List.getElem?_eq_getElem hlt)
      have hx0 := hcx 0 _ rfl
      have hx1 := hcx 1 _ rfl
      have hx2 := hcx 2 _ rfl
      have hx3 := hcx 3 _ rfl
      have hx4 := hcx 4 _ rfl
      simp only [Nat.add_zero] at hx0
      clear hcx h0
      skip
      have HS := hid (any_snoc (sameB z) xs k hlt)
      have HH := hid (fun hp => idxF_hit (p := (sameB z)) (xs := xs) HT.out hlt hp)
      obtain ⟨x, hxk⟩ : ∃ x, x = xs[k] := ⟨_, rfl⟩
      simp only [← hxk] at hx0 hx1 hx2 hx3 hx4 HS HH
      clear hxk
      have hc := cellOf hbr
      have hf := frozOf hbr
      have hz := sizeOf hbr
      have mbp0 : wr.cell? ⟨bp, 0, none⟩ = some (.int .i64 (z)) := by rw [hc, if_pos hlbp]; exact hbp0
      have mlbp : bp < wr.heap.size := by omega
      by_cases hp : (sameB z) x = true
      · have HP := hid hp
        have hp' := hp
        simp only [sameB] at hp'
        clear hp
        go_wp2_with (go_at_call 63; refine (c_impl_LeaveEarly_1 _ _ _ _ _ z bp _ mbp0 mlbp).mono ?_; rintro e w2 ⟨rfl, hb2⟩)
        go_ret
        exact ⟨ret_int (HH.out HP.out).symm, by (repeat' (first | exact Below.refl _ _ | assumption | refine Below.setCell ?_ ?_ _ | refine Below.drew ?_ | refine Below.alloc ?_ ?_ _ | refine Below.trans ?_ (Below.mono (by assumption) ?_) | (simp; done) | (simp; omega) | omega))⟩
      · have HP : Hid ((sameB z) x = false) := by show _ = _; simpa using hp
        have hp' := HP.out
        simp only [sameB] at hp'
        clear hp
        go_wp2_with (go_at_call 63; refine (c_impl_LeaveEarly_1 _ _ _ _ _ z bp _ mbp0 mlbp).mono ?_; rintro e w2 ⟨rfl, hb2⟩)
        go_roundw
        case rel => exact ⟨k + 1, by omega, by go_num, by rw [HS.out, HT.out, HP.out]; rfl, by (repeat' (first | exact Below.refl _ _ | assumption | refine Below.setCell ?_ ?_ _ | refine Below.drew ?_ | refine Below.alloc ?_ ?_ _ | refine Below.trans ?_ (Below.mono (by assumption) ?_) | (simp; done) | (simp; omega) | omega))⟩
        case measure => simp [intOf]; omega
    · obtain rfl : k = xs.length := by omega
      have HN := hid (idxF_none (p := (sameB z)) (xs := xs) (by have := HT.out; rwa [List.take_length] at this))
      go_wp2_with (fail)
      go_ret
      exact ⟨ret_int HN.out.symm, by (repeat' (first | exact Below.refl _ _ | assumption | refine Below.setCell ?_ ?_ _ | refine Below.drew ?_ | refine Below.alloc ?_ ?_ _ | refine Below.trans ?_ (Below.mono (by assumption) ?_) | (simp; done) | (simp; omega) | omega))⟩

end Go.Proofs.Ytfipmalomhflgaa
namespace Go.Proofs.Ytfipmalomhflgaa
set_option linter.unusedSimpArgs false
set_option linter.unusedVariables false
open Go.RowKit

def FS28_2 (q : Int) (xs : List (Int × Int × Int × Int × Int)) (h : Int) (n0 cap : Nat) (A : Option Addr) (gi : Int) (w W0 : World) (iq : Nat) (v : Value) (w1 : World) : Prop := match iq with
  | 0 => v = .int .i64 (q)
  | 1 => v = .slice A n0 cap
  | 2 => v = .bool (false)
  | 3 => v = .bool (true)
  | 4 => v = .bool (true)
  | 5 => v = undef
  | 6 => v = undef
  | 7 => v = .bool (true)
  | 8 => v = .bool (true)
  | 9 => v = undef
  | 10 => v = undef
  | 11 => v = undef
  | 12 => v = undef
  | 13 => v = undef
  | 14 => v = undef
  | 15 => v = undef
  | 16 => v = undef
  | 17 => v = undef
  | 18 => v = undef
  | 19 => v = undef
  | 20 => v = undef
  | 21 => v = undef
  | 22 => v = undef
  | 23 => v = undef
  | 24 => v = .bool (true)
  | _ => True

def FS28_2_19 (q : Int) (xs : List (Int × Int × Int × Int × Int)) (h : Int) (n0 cap : Nat) (A : Option Addr) (w W0 : World) (iq : Nat) (v : Value) (w1 : World) : Prop := match iq with
  | 0 => v = .int .i64 (q)
  | 1 => v = .slice A n0 cap
  | 2 => v = .bool (true)
  | 3 => v = .bool (false)
  | 4 => v = .bool (false)
  | 5 => v = .int .i64 (-1)
  | 6 => v = .bool (true)
  | 7 => v = .bool (true)
  | 8 => v = .bool (true)
  | 9 => v = undef
  | 10 => v = undef
  | 11 => v = undef
  | 12 => v = undef
  | 13 => v = undef
  | 14 => v = undef
  | 15 => v = undef
  | 16 => v = undef
  | 17 => v = undef
  | 18 => v = undef
  | 19 => v = undef
  | 20 => v = undef
  | 21 => v = undef
  | 22 => v = undef
  | 23 => v = undef
  | 24 => v = .bool (true)
  | _ => True

def FS28_2_20 (q : Int) (xs : List (Int × Int × Int × Int × Int)) (h : Int) (n0 cap : Nat) (x : Int × Int × Int × Int × Int) (k bx ox : Nat) (w W0 : World) (iq : Nat) (v : Value) (w1 : World) : Prop := match iq with
  | 0 => v = .int .i64 (q)
  | 1 => v = .slice (some ⟨bx, ox, none⟩) n0 cap
  | 2 => v = .bool (true)
  | 3 => v = .bool (false)
  | 4 => v = .bool (false)
  | 5 => v = .int .i64 (k)
  | 6 => v = .bool (false)
  | 7 => v = .bool (false)
  | 8 => v = .bool (false)
  | 9 => v = .int .i64 (h)
  | 10 => v = .slice (some ⟨bx, ox, none⟩) n0 cap
  | 11 => v = .int .i64 (k)
  | 12 => v = .pointer (some ⟨bx, ox + k * 5, none⟩)
  | 13 => v = .pointer (some ⟨bx, ox + k * 5 + 3, none⟩)
  | 14 => v = .int .i64 (x.2.2.2.1)
  | 15 => v = .int .i64 (x.2.2.2.1 + 1)
  | 16 => v = .slice (some ⟨bx, ox, none⟩) n0 cap
  | 17 => v = .int .i64 (k)
  | 18 => v = .pointer (some ⟨bx, ox + k * 5, none⟩)
  | 19 => v = .pointer (some ⟨bx, ox + k * 5 + 4, none⟩)
  | 20 => v = .int .i64 (x.2.2.2.2)
  | 21 => v = .int .i64 (x.2.2.2.2 - 1)
  | 22 => v = .bool (false)
  | 23 => v = .bool (true)
  | 24 => v = .bool (true)
  | _ => True

def FS28_2_21 (q : Int) (xs : List (Int × Int × Int × Int × Int)) (h : Int) (n0 cap : Nat) (x : Int × Int × Int × Int × Int) (k bx ox : Nat) (w W0 : World) (iq : Nat) (v : Value) (w1 : World) : Prop := match iq with
  | 0 => v = .int .i64 (q)
  | 1 => v = .slice (some ⟨bx, ox, none⟩) n0 cap
  | 2 => v = .bool (true)
  | 3 => v = .bool (false)
  | 4 => v = .bool (false)
  | 5 => v = .int .i64 (k)
  | 6 => v = .bool (false)
  | 7 => v = .bool (false)
  | 8 => v = .bool (false)
  | 9 => v = .int .i64 (h)
  | 10 => v = .slice (some ⟨bx, ox, none⟩) n0 cap
  | 11 => v = .int .i64 (k)
  | 12 => v = .pointer (some ⟨bx, ox + k * 5, none⟩)
  | 13 => v = .pointer (some ⟨bx, ox + k * 5 + 3, none⟩)
  | 14 => v = .int .i64 (x.2.2.2.1)
  | 15 => v = .int .i64 (x.2.2.2.1 + 1)
  | 16 => v = .slice (some ⟨bx, ox, none⟩) n0 cap
  | 17 => v = .int .i64 (k)
  | 18 => v = .pointer (some ⟨bx, ox + k * 5, none⟩)
  | 19 => v = .pointer (some ⟨bx, ox + k * 5 + 4, none⟩)
  | 20 => v = .int .i64 (x.2.2.2.2)
  | 21 => v = .int .i64 (x.2.2.2.2 - 1)
  | 22 => v = .bool (true)
  | 23 => v = .bool (false)
  | 24 => v = .bool (false)
  | _ => True

set_option maxRecDepth 100000 in
set_option maxHeartbeats 4000000 in
theorem c_impl_LeaveEarly (q : Int) (A : Option Addr) (xs : List (Int × Int × Int × Int × Int)) (cap : Nat) (z h : Int) (w : World) (hx : Rds cBer 5 w A xs) (hn : xs.length ≤ 9223372036854775807) (hcap : xs.length ≤ cap) (hmax : cap ≤ 9223372036854775807) :
    Calls Try.prog 28 #[.int .i64 q, .slice A xs.length cap, .int .i64 z, .int .i64 h] w fun e w' => ∃ A' cap', e = .returned (.tuple #[.slice A' (leaveV q xs z h).1.length cap', .bool (leaveV q xs z h).2]) ∧ FreshA cBer 5 48 w.heap.size w' A' cap' (leaveV q xs z h).1 ∧ Below w.heap.size w w' := by
  obtain ⟨i0, hI0, hI1, hI2, hI3⟩ := info_parts info_Ber
  by_cases hs0 : berV q xs = true
  rotate_left
  · have hn0 : berV q xs = false := Bool.eq_false_iff.2 hs0
    have HV := hid (leaveV_no (z := z) (h := h) hn0)
    clear hs0
    generalize hgi : idxF (sameB z) xs = gi
    go_enter Try.func28, Try.ntmps28
    go_wp2_with (first | (go_at_call 62; refine (c_idx_same _ _ _ z w.heap.size _ (by first | assumption | exact Rds.below hx (by (repeat' (first | exact Below.refl _ _ | assumption | refine Below.setCell ?_ ?_ _ | refine Below.drew ?_ | refine Below.alloc ?_ ?_ _ | refine Below.trans ?_ (Below.mono (by assumption) ?_) | (simp; done) | (simp; omega) | omega)))) (by omega) (by first | assumption | (simp [go_sem, ↓IntWalk.iteOmega, *]; done)) (by first | omega | (simp; done) | (simp; omega))).mono ?_; rintro e w' ⟨rfl, hb⟩; have hc := cellOf hb; have hf := frozOf hb; have hz := sizeOf hb; try simp at hz))
    refine wp_region_w (n := 25) [] [] (FS28_2 q xs h xs.length cap A gi w) rfl (by kernel_rfl) (fun _ _ d _ _ h => by cases d <;> exact h) ?_ ?_ ?_ ?_ ?_ ?_
    · intro iq
      match iq with
      | 0 | 1 | 2 | 3 | 4 | 5 | 6 | 7 | 8 | 9 | 10 | 11 | 12 | 13 | 14 | 15 | 16 | 17 | 18 | 19 | 20 | 21 | 22 | 23 | 24 => exact Stable.const _
      | n + 25 => exact Stable.const _
    · intro iq hi
      exact absurd hi (by simp)
    · intro iq hi
      exact absurd hi (by simp)
    · intro iq o hi hl ho vals w1 hb1 hf
      exact absurd hl (by simp)
    · intro iq o hi hl ho vals w1 hb1 hf
      match iq, hi with
      | 0, _ =>
        injection ho with ho
        subst ho
        clear hl
        simp only [fillA, List.take, List.drop, put_none, Act.put, List.setIfInBounds_toArray, List.set_cons_zero, List.set_cons_succ, Nat.reduceAdd]
        clear hf
        go_wp2_with (fail)
        exact RQ.mk rfl ⟨(by first | rfl | (simp [FS28_2]; done) | (simp [FS28_2, *]; done) | (simp [FS28_2, gotV]; done) | (simp [FS28_2, gotV]; omega)), fun h => absurd h (by decide)⟩ (Below.refl _ _)
      | 1, _ =>
        injection ho with ho
        subst ho
        clear hl
        simp only [fillA, List.take, List.drop, put_none, Act.put, List.setIfInBounds_toArray, List.set_cons_zero, List.set_cons_succ, Nat.reduceAdd]
        clear hf
        go_wp2_with (fail)
        exact RQ.mk rfl ⟨(by first | rfl | (simp [FS28_2]; done) | (simp [FS28_2, *]; done) | (simp [FS28_2, gotV]; done) | (simp [FS28_2, gotV]; omega)), fun h => absurd h (by decide)⟩ (Below.refl _ _)
      | 2, _ =>
        injection ho with ho
        subst ho
        clear hl
        simp only [fillA, List.take, List.drop, put_none, Act.put, List.setIfInBounds_toArray, List.set_cons_zero, List.set_cons_succ, Nat.reduceAdd]
        have f0 := hf 0 (by decide) (by kernel_rfl)
        generalize vals 0 = v0 at *
        subst f0
        have f1 := hf 1 (by decide) (by kernel_rfl)
        generalize vals 1 = v1 at *
        subst f1
        clear hf
        have hc1 := cellOf hb1
        have hf1 := frozOf hb1
        have hz1 := sizeOf hb1
        try simp at hz1
        go_wp2_with (first | (go_at_call 17; refine (c_impl_IsBerthing _ _ _ _ _ (by first | assumption | exact Rds.below hx (by (repeat' (first | exact Below.refl _ _ | assumption | refine Below.setCell ?_ ?_ _ | refine Below.drew ?_ | refine Below.alloc ?_ ?_ _ | refine Below.trans ?_ (Below.mono (by assumption) ?_) | (simp; done) | (simp; omega) | omega)))) (by omega) (by omega) (by omega)).mono ?_; rintro e w' ⟨rfl, hb⟩; have hc := cellOf hb; have hf := frozOf hb; have hz := sizeOf hb; try simp at hz))
        exact RQ.mk rfl ⟨(by first | rfl | (simp [FS28_2]; done) | (simp [FS28_2, *]; done) | (simp [FS28_2, gotV]; done) | (simp [FS28_2, gotV]; omega)), fun h => absurd h (by decide)⟩ (by (repeat' (first | exact Below.refl _ _ | assumption | refine Below.setCell ?_ ?_ _ | refine Below.drew ?_ | refine Below.alloc ?_ ?_ _ | refine Below.trans ?_ (Below.mono (by assumption) ?_) | (simp; done) | (simp; omega) | omega)))
      | 3, _ =>
        injection ho with ho
        subst ho
        clear hl
        simp only [fillA, List.take, List.drop, put_none, Act.put, List.setIfInBounds_toArray, List.set_cons_zero, List.set_cons_succ, Nat.reduceAdd]
        have f2 := hf 2 (by decide) (by kernel_rfl)
        generalize vals 2 = v2 at *
        subst f2
        clear hf
        go_wp2_with (fail)
        exact RQ.mk rfl ⟨(by first | rfl | (simp [FS28_2]; done) | (simp [FS28_2, *]; done) | (simp [FS28_2, gotV]; done) | (simp [FS28_2, gotV]; omega)), fun h => absurd h (by decide)⟩ (Below.refl _ _)
      | 4, _ =>
        injection ho with ho
        subst ho
        clear hl
        simp only [fillA, List.take, List.drop, put_none, Act.put, List.setIfInBounds_toArray, List.set_cons_zero, List.set_cons_succ, Nat.reduceAdd]
        have f3 := hf 3 (by decide) (by kernel_rfl)
        generalize vals 3 = v3 at *
        subst f3
        have f2 := hf 2 (by decide) (by kernel_rfl)
        generalize vals 2 = v2 at *
        subst f2
        clear hf
        go_wp2_with (fail)
        exact RQ.mk rfl ⟨(by first | rfl | (simp [FS28_2]; done) | (simp [FS28_2, *]; done) | (simp [FS28_2, gotV]; done) | (simp [FS28_2, gotV]; omega)), fun h => absurd h (by decide)⟩ (Below.refl _ _)
      | 5, _ =>
        injection ho with ho
        subst ho
        clear hl
        simp only [fillA, List.take, List.drop, put_none, Act.put, List.setIfInBounds_toArray, List.set_cons_zero, List.set_cons_succ, Nat.reduceAdd]
        have f4 := hf 4 (by decide) (by kernel_rfl)
        generalize vals 4 = v4 at *
        subst f4
        clear hf
        go_wp2_with (fail)
        exact RQ.mk rfl ⟨(by first | rfl | (simp [FS28_2]; done) | (simp [FS28_2, *]; done) | (simp [FS28_2, gotV]; done) | (simp [FS28_2, gotV]; omega)), fun h => absurd h (by decide)⟩ (Below.refl _ _)
      | 6, _ =>
        injection ho with ho
        subst ho
        clear hl
        simp only [fillA, List.take, List.drop, put_none, Act.put, List.setIfInBounds_toArray, List.set_cons_zero, List.set_cons_succ, Nat.reduceAdd]
        have f5 := hf 5 (by decide) (by kernel_rfl)
        generalize vals 5 = v5 at *
        subst f5
        have f4 := hf 4 (by decide) (by kernel_rfl)
        generalize vals 4 = v4 at *
        subst f4
        clear hf
        go_wp2_with (fail)
        exact RQ.mk rfl ⟨(by first | rfl | (simp [FS28_2]; done) | (simp [FS28_2, *]; done) | (simp [FS28_2, gotV]; done) | (simp [FS28_2, gotV]; omega)), fun h => absurd h (by decide)⟩ (Below.refl _ _)
      | 7, _ =>
        injection ho with ho
        subst ho
        clear hl
        simp only [fillA, List.take, List.drop, put_none, Act.put, List.setIfInBounds_toArray, List.set_cons_zero, List.set_cons_succ, Nat.reduceAdd]
        have f4 := hf 4 (by decide) (by kernel_rfl)
        generalize vals 4 = v4 at *
        subst f4
        have f6 := hf 6 (by decide) (by kernel_rfl)
        generalize vals 6 = v6 at *
        subst f6
        clear hf
        go_wp2_with (fail)
        exact RQ.mk rfl ⟨(by first | rfl | (simp [FS28_2]; done) | (simp [FS28_2, *]; done) | (simp [FS28_2, gotV]; done) | (simp [FS28_2, gotV]; omega)), fun h => absurd h (by decide)⟩ (Below.refl _ _)
      | 8, _ =>
        injection ho with ho
        subst ho
        clear hl
        simp only [fillA, List.take, List.drop, put_none, Act.put, List.setIfInBounds_toArray, List.set_cons_zero, List.set_cons_succ, Nat.reduceAdd]
        have f7 := hf 7 (by decide) (by kernel_rfl)
        generalize vals 7 = v7 at *
        subst f7
        have f4 := hf 4 (by decide) (by kernel_rfl)
        generalize vals 4 = v4 at *
        subst f4
        clear hf
        go_wp2_with (fail)
        exact RQ.mk rfl ⟨(by first | rfl | (simp [FS28_2]; done) | (simp [FS28_2, *]; done) | (simp [FS28_2, gotV]; done) | (simp [FS28_2, gotV]; omega)), fun h => absurd h (by decide)⟩ (Below.refl _ _)
      | 9, _ =>
        injection ho with ho
        subst ho
        clear hl
        simp only [fillA, List.take, List.drop, put_none, Act.put, List.setIfInBounds_toArray, List.set_cons_zero, List.set_cons_succ, Nat.reduceAdd]
        have f8 := hf 8 (by decide) (by kernel_rfl)
        generalize vals 8 = v8 at *
        subst f8
        clear hf
        go_wp2_with (fail)
        exact RQ.mk rfl ⟨(by first | rfl | (simp [FS28_2]; done) | (simp [FS28_2, *]; done) | (simp [FS28_2, gotV]; done) | (simp [FS28_2, gotV]; omega)), fun h => absurd h (by decide)⟩ (Below.refl _ _)
      | 10, _ =>
        injection ho with ho
        subst ho
        clear hl
        simp only [fillA, List.take, List.drop, put_none, Act.put, List.setIfInBounds_toArray, List.set_cons_zero, List.set_cons_succ, Nat.reduceAdd]
        have f8 := hf 8 (by decide) (by kernel_rfl)
        generalize vals 8 = v8 at *
        subst f8
        clear hf
        go_wp2_with (fail)
        exact RQ.mk rfl ⟨(by first | rfl | (simp [FS28_2]; done) | (simp [FS28_2, *]; done) | (simp [FS28_2, gotV]; done) | (simp [FS28_2, gotV]; omega)), fun h => absurd h (by decide)⟩ (Below.refl _ _)
      | 11, _ =>
        injection ho with ho
        subst ho
        clear hl
        simp only [fillA, List.take, List.drop, put_none, Act.put, List.setIfInBounds_toArray, List.set_cons_zero, List.set_cons_succ, Nat.reduceAdd]
        have f8 := hf 8 (by decide) (by kernel_rfl)
        generalize vals 8 = v8 at *
        subst f8
        clear hf
        go_wp2_with (fail)
        exact RQ.mk rfl ⟨(by first | rfl | (simp [FS28_2]; done) | (simp [FS28_2, *]; done) | (simp [FS28_2, gotV]; done) | (simp [FS28_2, gotV]; omega)), fun h => absurd h (by decide)⟩ (Below.refl _ _)
      | 12, _ =>
        injection ho with ho
        subst ho
        clear hl
        simp only [fillA, List.take, List.drop, put_none, Act.put, List.setIfInBounds_toArray, List.set_cons_zero, List.set_cons_succ, Nat.reduceAdd]
        have f10 := hf 10 (by decide) (by kernel_rfl)
        generalize vals 10 = v10 at *
        subst f10
        have f11 := hf 11 (by decide) (by kernel_rfl)
        generalize vals 11 = v11 at *
        subst f11
        have f8 := hf 8 (by decide) (by kernel_rfl)
        generalize vals 8 = v8 at *
        subst f8
        clear hf
        go_wp2_with (fail)
        exact RQ.mk rfl ⟨(by first | rfl | (simp [FS28_2]; done) | (simp [FS28_2, *]; done) | (simp [FS28_2, gotV]; done) | (simp [FS28_2, gotV]; omega)), fun h => absurd h (by decide)⟩ (Below.refl _ _)
      | 13, _ =>
        injection ho with ho
        subst ho
        clear hl
        simp only [fillA, List.take, List.drop, put_none, Act.put, List.setIfInBounds_toArray, List.set_cons_zero, List.set_cons_succ, Nat.reduceAdd]
        have f12 := hf 12 (by decide) (by kernel_rfl)
        generalize vals 12 = v12 at *
        subst f12
        have f8 := hf 8 (by decide) (by kernel_rfl)
        generalize vals 8 = v8 at *
        subst f8
        clear hf
        go_wp2_with (fail)
        exact RQ.mk rfl ⟨(by first | rfl | (simp [FS28_2]; done) | (simp [FS28_2, *]; done) | (simp [FS28_2, gotV]; done) | (simp [FS28_2, gotV]; omega)), fun h => absurd h (by decide)⟩ (Below.refl _ _)
      | 14, _ =>
        injection ho with ho
        subst ho
        clear hl
        simp only [fillA, List.take, List.drop, put_none, Act.put, List.setIfInBounds_toArray, List.set_cons_zero, List.set_cons_succ, Nat.reduceAdd]
        have f13 := hf 13 (by decide) (by kernel_rfl)
        generalize vals 13 = v13 at *
        subst f13
        have f8 := hf 8 (by decide) (by kernel_rfl)
        generalize vals 8 = v8 at *
        subst f8
        clear hf
        go_wp2_with (fail)
        exact RQ.mk rfl ⟨(by first | rfl | (simp [FS28_2]; done) | (simp [FS28_2, *]; done) | (simp [FS28_2, gotV]; done) | (simp [FS28_2, gotV]; omega)), fun h => absurd h (by decide)⟩ (Below.refl _ _)
      | 15, _ =>
        injection ho with ho
        subst ho
        clear hl
        simp only [fillA, List.take, List.drop, put_none, Act.put, List.setIfInBounds_toArray, List.set_cons_zero, List.set_cons_succ, Nat.reduceAdd]
        have f14 := hf 14 (by decide) (by kernel_rfl)
        generalize vals 14 = v14 at *
        subst f14
        have f8 := hf 8 (by decide) (by kernel_rfl)
        generalize vals 8 = v8 at *
        subst f8
        clear hf
        go_wp2_with (fail)
        exact RQ.mk rfl ⟨(by first | rfl | (simp [FS28_2]; done) | (simp [FS28_2, *]; done) | (simp [FS28_2, gotV]; done) | (simp [FS28_2, gotV]; omega)), fun h => absurd h (by decide)⟩ (Below.refl _ _)
      | 16, _ =>
        injection ho with ho
        subst ho
        clear hl
        simp only [fillA, List.take, List.drop, put_none, Act.put, List.setIfInBounds_toArray, List.set_cons_zero, List.set_cons_succ, Nat.reduceAdd]
        have f8 := hf 8 (by decide) (by kernel_rfl)
        generalize vals 8 = v8 at *
        subst f8
        clear hf
        go_wp2_with (fail)
        exact RQ.mk rfl ⟨(by first | rfl | (simp [FS28_2]; done) | (simp [FS28_2, *]; done) | (simp [FS28_2, gotV]; done) | (simp [FS28_2, gotV]; omega)), fun h => absurd h (by decide)⟩ (Below.refl _ _)
      | 17, _ =>
        injection ho with ho
        subst ho
        clear hl
        simp only [fillA, List.take, List.drop, put_none, Act.put, List.setIfInBounds_toArray, List.set_cons_zero, List.set_cons_succ, Nat.reduceAdd]
        have f8 := hf 8 (by decide) (by kernel_rfl)
        generalize vals 8 = v8 at *
        subst f8
        clear hf
        go_wp2_with (fail)
        exact RQ.mk rfl ⟨(by first | rfl | (simp [FS28_2]; done) | (simp [FS28_2, *]; done) | (simp [FS28_2, gotV]; done) | (simp [FS28_2, gotV]; omega)), fun h => absurd h (by decide)⟩ (Below.refl _ _)
      | 18, _ =>
        injection ho with ho
        subst ho
        clear hl
        simp only [fillA, List.take, List.drop, put_none, Act.put, List.setIfInBounds_toArray, List.set_cons_zero, List.set_cons_succ, Nat.reduceAdd]
        have f16 := hf 16 (by decide) (by kernel_rfl)
        generalize vals 16 = v16 at *
        subst f16
        have f17 := hf 17 (by decide) (by kernel_rfl)
        generalize vals 17 = v17 at *
        subst f17
        have f8 := hf 8 (by decide) (by kernel_rfl)
        generalize vals 8 = v8 at *
        subst f8
        clear hf
        go_wp2_with (fail)
        exact RQ.mk rfl ⟨(by first | rfl | (simp [FS28_2]; done) | (simp [FS28_2, *]; done) | (simp [FS28_2, gotV]; done) | (simp [FS28_2, gotV]; omega)), fun h => absurd h (by decide)⟩ (Below.refl _ _)
      | 19, _ =>
        injection ho with ho
        subst ho
        clear hl
        simp only [fillA, List.take, List.drop, put_none, Act.put, List.setIfInBounds_toArray, List.set_cons_zero, List.set_cons_succ, Nat.reduceAdd]
        have f18 := hf 18 (by decide) (by kernel_rfl)
        generalize vals 18 = v18 at *
        subst f18
        have f8 := hf 8 (by decide) (by kernel_rfl)
        generalize vals 8 = v8 at *
        subst f8
        clear hf
        go_wp2_with (fail)
        exact RQ.mk rfl ⟨(by first | rfl | (simp [FS28_2]; done) | (simp [FS28_2, *]; done) | (simp [FS28_2, gotV]; done) | (simp [FS28_2, gotV]; omega)), fun h => absurd h (by decide)⟩ (Below.refl _ _)
      | 20, _ =>
        injection ho with ho
        subst ho
        clear hl
        simp only [fillA, List.take, List.drop, put_none, Act.put, List.setIfInBounds_toArray, List.set_cons_zero, List.set_cons_succ, Nat.reduceAdd]
        have f19 := hf 19 (by decide) (by kernel_rfl)
        generalize vals 19 = v19 at *
        subst f19
        have f8 := hf 8 (by decide) (by kernel_rfl)
        generalize vals 8 = v8 at *
        subst f8
        clear hf
        go_wp2_with (fail)
        exact RQ.mk rfl ⟨(by first | rfl | (simp [FS28_2]; done) | (simp [FS28_2, *]; done) | (simp [FS28_2, gotV]; done) | (simp [FS28_2, gotV]; omega)), fun h => absurd h (by decide)⟩ (Below.refl _ _)
      | 21, _ =>
        injection ho with ho
        subst ho
        clear hl
        simp only [fillA, List.take, List.drop, put_none, Act.put, List.setIfInBounds_toArray, List.set_cons_zero, List.set_cons_succ, Nat.reduceAdd]
        have f20 := hf 20 (by decide) (by kernel_rfl)
        generalize vals 20 = v20 at *
        subst f20
        have f8 := hf 8 (by decide) (by kernel_rfl)
        generalize vals 8 = v8 at *
        subst f8
        clear hf
        go_wp2_with (fail)
        exact RQ.mk rfl ⟨(by first | rfl | (simp [FS28_2]; done) | (simp [FS28_2, *]; done) | (simp [FS28_2, gotV]; done) | (simp [FS28_2, gotV]; omega)), fun h => absurd h (by decide)⟩ (Below.refl _ _)
      | 22, _ =>
        injection ho with ho
        subst ho
        clear hl
        simp only [fillA, List.take, List.drop, put_none, Act.put, List.setIfInBounds_toArray, List.set_cons_zero, List.set_cons_succ, Nat.reduceAdd]
        have f9 := hf 9 (by decide) (by kernel_rfl)
        generalize vals 9 = v9 at *
        subst f9
        have f15 := hf 15 (by decide) (by kernel_rfl)
        generalize vals 15 = v15 at *
        subst f15
        have f21 := hf 21 (by decide) (by kernel_rfl)
        generalize vals 21 = v21 at *
        subst f21
        have f8 := hf 8 (by decide) (by kernel_rfl)
        generalize vals 8 = v8 at *
        subst f8
        clear hf
        go_wp2_with (first | (go_at_call 53; refine (c_impl_inside _ _ _ _ ).mono ?_; rintro e w' ⟨rfl, hb⟩; have hc := cellOf hb; have hf := frozOf hb; have hz := sizeOf hb; try simp at hz))
        exact RQ.mk rfl ⟨(by first | rfl | (simp [FS28_2]; done) | (simp [FS28_2, *]; done) | (simp [FS28_2, gotV]; done) | (simp [FS28_2, gotV]; omega)), fun h => absurd h (by decide)⟩ (Below.refl _ _)
      | 23, _ =>
        injection ho with ho
        subst ho
        clear hl
        simp only [fillA, List.take, List.drop, put_none, Act.put, List.setIfInBounds_toArray, List.set_cons_zero, List.set_cons_succ, Nat.reduceAdd]
        have f22 := hf 22 (by decide) (by kernel_rfl)
        generalize vals 22 = v22 at *
        subst f22
        have f8 := hf 8 (by decide) (by kernel_rfl)
        generalize vals 8 = v8 at *
        subst f8
        clear hf
        go_wp2_with (fail)
        exact RQ.mk rfl ⟨(by first | rfl | (simp [FS28_2]; done) | (simp [FS28_2, *]; done) | (simp [FS28_2, gotV]; done) | (simp [FS28_2, gotV]; omega)), fun h => absurd h (by decide)⟩ (Below.refl _ _)
      | 24, _ =>
        injection ho with ho
        subst ho
        clear hl
        simp only [fillA, List.take, List.drop, put_none, Act.put, List.setIfInBounds_toArray, List.set_cons_zero, List.set_cons_succ, Nat.reduceAdd]
        have f8 := hf 8 (by decide) (by kernel_rfl)
        generalize vals 8 = v8 at *
        subst f8
        have f23 := hf 23 (by decide) (by kernel_rfl)
        generalize vals 23 = v23 at *
        subst f23
        clear hf
        go_wp2_with (fail)
        exact RQ.mk rfl ⟨(by first | rfl | (simp [FS28_2]; done) | (simp [FS28_2, *]; done) | (simp [FS28_2, gotV]; done) | (simp [FS28_2, gotV]; omega)), fun h => absurd h (by decide)⟩ (Below.refl _ _)
      | m + 25, h => exact absurd h (by omega)
    · intro vals w1 hb1 hf hd
      simp only [fillA, List.take, List.drop, put_none, Act.put, List.setIfInBounds_toArray, List.set_cons_zero, List.set_cons_succ, Nat.reduceAdd]
      clear hd
      have f0 := hf 0 (by decide)
      generalize vals 0 = v0 at *
      subst f0
      have f1 := hf 1 (by decide)
      generalize vals 1 = v1 at *
      subst f1
      have f2 := hf 2 (by decide)
      generalize vals 2 = v2 at *
      subst f2
      have f3 := hf 3 (by decide)
      generalize vals 3 = v3 at *
      subst f3
      have f4 := hf 4 (by decide)
      generalize vals 4 = v4 at *
      subst f4
      have f5 := hf 5 (by decide)
      generalize vals 5 = v5 at *
      subst f5
      have f6 := hf 6 (by decide)
      generalize vals 6 = v6 at *
      subst f6
      have f7 := hf 7 (by decide)
      generalize vals 7 = v7 at *
      subst f7
      have f8 := hf 8 (by decide)
      generalize vals 8 = v8 at *
      subst f8
      have f9 := hf 9 (by decide)
      generalize vals 9 = v9 at *
      subst f9
      have f10 := hf 10 (by decide)
      generalize vals 10 = v10 at *
      subst f10
      have f11 := hf 11 (by decide)
      generalize vals 11 = v11 at *
      subst f11
      have f12 := hf 12 (by decide)
      generalize vals 12 = v12 at *
      subst f12
      have f13 := hf 13 (by decide)
      generalize vals 13 = v13 at *
      subst f13
      have f14 := hf 14 (by decide)
      generalize vals 14 = v14 at *
      subst f14
      have f15 := hf 15 (by decide)
      generalize vals 15 = v15 at *
      subst f15
      have f16 := hf 16 (by decide)
      generalize vals 16 = v16 at *
      subst f16
      have f17 := hf 17 (by decide)
      generalize vals 17 = v17 at *
      subst f17
      have f18 := hf 18 (by decide)
      generalize vals 18 = v18 at *
      subst f18
      have f19 := hf 19 (by decide)
      generalize vals 19 = v19 at *
      subst f19
      have f20 := hf 20 (by decide)
      generalize vals 20 = v20 at *
      subst f20
      have f21 := hf 21 (by decide)
      generalize vals 21 = v21 at *
      subst f21
      have f22 := hf 22 (by decide)
      generalize vals 22 = v22 at *
      subst f22
      have f23 := hf 23 (by decide)
      generalize vals 23 = v23 at *
      subst f23
      have f24 := hf 24 (by decide)
      generalize vals 24 = v24 at *
      subst f24
      clear hf
      have hc1 := cellOf hb1
      have hf1 := frozOf hb1
      have hz1 := sizeOf hb1
      try simp at hz1
      go_wp2_with (fail)
      go_ret2
      simp only [HV.out]
      exact ⟨none, 0, rfl, .inl ⟨rfl, rfl, rfl⟩, by (repeat' (first | exact Below.refl _ _ | assumption | refine Below.setCell ?_ ?_ _ | refine Below.drew ?_ | refine Below.alloc ?_ ?_ _ | refine Below.trans ?_ (Below.mono (by assumption) ?_) | (simp; done) | (simp; omega) | omega))⟩
  cases hfi : findId xs z with
  | none =>
    have hgi := idx_none hfi
    have HV := hid (leaveV_none (q := q) (leaveL_id (h := h) hfi))
    clear hfi
    go_enter Try.func28, Try.ntmps28
    go_wp2_with (first | (go_at_call 62; refine (c_idx_same _ _ _ z w.heap.size _ (by first | assumption | exact Rds.below hx (by (repeat' (first | exact Below.refl _ _ | assumption | refine Below.setCell ?_ ?_ _ | refine Below.drew ?_ | refine Below.alloc ?_ ?_ _ | refine Below.trans ?_ (Below.mono (by assumption) ?_) | (simp; done) | (simp; omega) | omega)))) (by omega) (by first | assumption | (simp [go_sem, ↓IntWalk.iteOmega, *]; done)) (by first | omega | (simp; done) | (simp; omega))).mono ?_; rintro e w' ⟨rfl, hb⟩; have hc := cellOf hb; have hf := frozOf hb; have hz := sizeOf hb; try simp at hz))
    refine wp_region_w (n := 25) [] [] (FS28_2_19 q xs h xs.length cap A w) rfl (by kernel_rfl) (fun _ _ d _ _ h => by cases d <;> exact h) ?_ ?_ ?_ ?_ ?_ ?_
    · intro iq
      match iq with
      | 0 | 1 | 2 | 3 | 4 | 5 | 6 | 7 | 8 | 9 | 10 | 11 | 12 | 13 | 14 | 15 | 16 | 17 | 18 | 19 | 20 | 21 | 22 | 23 | 24 => exact Stable.const _
      | n + 25 => exact Stable.const _
    · intro iq hi
      exact absurd hi (by simp)
    · intro iq hi
      exact absurd hi (by simp)
    · intro iq o hi hl ho vals w1 hb1 hf
      exact absurd hl (by simp)
    · intro iq o hi hl ho vals w1 hb1 hf
      match iq, hi with
      | 0, _ =>
        injection ho with ho
        subst ho
        clear hl
        simp only [fillA, List.take, List.drop, put_none, Act.put, List.setIfInBounds_toArray, List.set_cons_zero, List.set_cons_succ, Nat.reduceAdd]
        clear hf
        go_wp2_with (fail)
        exact RQ.mk rfl ⟨(by first | rfl | (simp [FS28_2_19]; done) | (simp [FS28_2_19, *]; done) | (simp [FS28_2_19, gotV]; done) | (simp [FS28_2_19, gotV]; omega)), fun h => absurd h (by decide)⟩ (Below.refl _ _)
      | 1, _ =>
        injection ho with ho
        subst ho
        clear hl
        simp only [fillA, List.take, List.drop, put_none, Act.put, List.setIfInBounds_toArray, List.set_cons_zero, List.set_cons_succ, Nat.reduceAdd]
        clear hf
        go_wp2_with (fail)
        exact RQ.mk rfl ⟨(by first | rfl | (simp [FS28_2_19]; done) | (simp [FS28_2_19, *]; done) | (simp [FS28_2_19, gotV]; done) | (simp [FS28_2_19, gotV]; omega)), fun h => absurd h (by decide)⟩ (Below.refl _ _)
      | 2, _ =>
        injection ho with ho
        subst ho
        clear hl
        simp only [fillA, List.take, List.drop, put_none, Act.put, List.setIfInBounds_toArray, List.set_cons_zero, List.set_cons_succ, Nat.reduceAdd]
        have f0 := hf 0 (by decide) (by kernel_rfl)
        generalize vals 0 = v0 at *
        subst f0
        have f1 := hf 1 (by decide) (by kernel_rfl)
        generalize vals 1 = v1 at *
        subst f1
        clear hf
        have hc1 := cellOf hb1
        have hf1 := frozOf hb1
        have hz1 := sizeOf hb1
        try simp at hz1
        go_wp2_with (first | (go_at_call 17; refine (c_impl_IsBerthing _ _ _ _ _ (by first | assumption | exact Rds.below hx (by (repeat' (first | exact Below.refl _ _ | assumption | refine Below.setCell ?_ ?_ _ | refine Below.drew ?_ | refine Below.alloc ?_ ?_ _ | refine Below.trans ?_ (Below.mono (by assumption) ?_) | (simp; done) | (simp; omega) | omega)))) (by omega) (by omega) (by omega)).mono ?_; rintro e w' ⟨rfl, hb⟩; have hc := cellOf hb; have hf := frozOf hb; have hz := sizeOf hb; try simp at hz))
        exact RQ.mk rfl ⟨(by first | rfl | (simp [FS28_2_19]; done) | (simp [FS28_2_19, *]; done) | (simp [FS28_2_19, gotV]; done) | (simp [FS28_2_19, gotV]; omega)), fun h => absurd h (by decide)⟩ (by (repeat' (first | exact Below.refl _ _ | assumption | refine Below.setCell ?_ ?_ _ | refine Below.drew ?_ | refine Below.alloc ?_ ?_ _ | refine Below.trans ?_ (Below.mono (by assumption) ?_) | (simp; done) | (simp; omega) | omega)))
      | 3, _ =>
        injection ho with ho
        subst ho
        clear hl
        simp only [fillA, List.take, List.drop, put_none, Act.put, List.setIfInBounds_toArray, List.set_cons_zero, List.set_cons_succ, Nat.reduceAdd]
        have f2 := hf 2 (by decide) (by kernel_rfl)
        generalize vals 2 = v2 at *
        subst f2
        clear hf
        go_wp2_with (fail)
        exact RQ.mk rfl ⟨(by first | rfl | (simp [FS28_2_19]; done) | (simp [FS28_2_19, *]; done) | (simp [FS28_2_19, gotV]; done) | (simp [FS28_2_19, gotV]; omega)), fun h => absurd h (by decide)⟩ (Below.refl _ _)
      | 4, _ =>
        injection ho with ho
        subst ho
        clear hl
        simp only [fillA, List.take, List.drop, put_none, Act.put, List.setIfInBounds_toArray, List.set_cons_zero, List.set_cons_succ, Nat.reduceAdd]
        have f3 := hf 3 (by decide) (by kernel_rfl)
        generalize vals 3 = v3 at *
        subst f3
        have f2 := hf 2 (by decide) (by kernel_rfl)
        generalize vals 2 = v2 at *
        subst f2
        clear hf
        go_wp2_with (fail)
        exact RQ.mk rfl ⟨(by first | rfl | (simp [FS28_2_19]; done) | (simp [FS28_2_19, *]; done) | (simp [FS28_2_19, gotV]; done) | (simp [FS28_2_19, gotV]; omega)), fun h => absurd h (by decide)⟩ (Below.refl _ _)
      | 5, _ =>
        injection ho with ho
        subst ho
        clear hl
        simp only [fillA, List.take, List.drop, put_none, Act.put, List.setIfInBounds_toArray, List.set_cons_zero, List.set_cons_succ, Nat.reduceAdd]
        have f4 := hf 4 (by decide) (by kernel_rfl)
        generalize vals 4 = v4 at *
        subst f4
        clear hf
        go_wp2_with (fail)
        exact RQ.mk rfl ⟨(by first | rfl | (simp [FS28_2_19]; done) | (simp [FS28_2_19, *]; done) | (simp [FS28_2_19, gotV]; done) | (simp [FS28_2_19, gotV]; omega)), fun h => absurd h (by decide)⟩ (Below.refl _ _)
      | 6, _ =>
        injection ho with ho
        subst ho
        clear hl
        simp only [fillA, List.take, List.drop, put_none, Act.put, List.setIfInBounds_toArray, List.set_cons_zero, List.set_cons_succ, Nat.reduceAdd]
        have f5 := hf 5 (by decide) (by kernel_rfl)
        generalize vals 5 = v5 at *
        subst f5
        have f4 := hf 4 (by decide) (by kernel_rfl)
        generalize vals 4 = v4 at *
        subst f4
        clear hf
        go_wp2_with (fail)
        exact RQ.mk rfl ⟨(by first | rfl | (simp [FS28_2_19]; done) | (simp [FS28_2_19, *]; done) | (simp [FS28_2_19, gotV]; done) | (simp [FS28_2_19, gotV]; omega)), fun h => absurd h (by decide)⟩ (Below.refl _ _)
      | 7, _ =>
        injection ho with ho
        subst ho
        clear hl
        simp only [fillA, List.take, List.drop, put_none, Act.put, List.setIfInBounds_toArray, List.set_cons_zero, List.set_cons_succ, Nat.reduceAdd]
        have f4 := hf 4 (by decide) (by kernel_rfl)
        generalize vals 4 = v4 at *
        subst f4
        have f6 := hf 6 (by decide) (by kernel_rfl)
        generalize vals 6 = v6 at *
        subst f6
        clear hf
        go_wp2_with (fail)
        exact RQ.mk rfl ⟨(by first | rfl | (simp [FS28_2_19]; done) | (simp [FS28_2_19, *]; done) | (simp [FS28_2_19, gotV]; done) | (simp [FS28_2_19, gotV]; omega)), fun h => absurd h (by decide)⟩ (Below.refl _ _)
      | 8, _ =>
        injection ho with ho
        subst ho
        clear hl
        simp only [fillA, List.take, List.drop, put_none, Act.put, List.setIfInBounds_toArray, List.set_cons_zero, List.set_cons_succ, Nat.reduceAdd]
        have f7 := hf 7 (by decide) (by kernel_rfl)
        generalize vals 7 = v7 at *
        subst f7
        have f4 := hf 4 (by decide) (by kernel_rfl)
        generalize vals 4 = v4 at *
        subst f4
        clear hf
        go_wp2_with (fail)
        exact RQ.mk rfl ⟨(by first | rfl | (simp [FS28_2_19]; done) | (simp [FS28_2_19, *]; done) | (simp [FS28_2_19, gotV]; done) | (simp [FS28_2_19, gotV]; omega)), fun h => absurd h (by decide)⟩ (Below.refl _ _)
      | 9, _ =>
        injection ho with ho
        subst ho
        clear hl
        simp only [fillA, List.take, List.drop, put_none, Act.put, List.setIfInBounds_toArray, List.set_cons_zero, List.set_cons_succ, Nat.reduceAdd]
        have f8 := hf 8 (by decide) (by kernel_rfl)
        generalize vals 8 = v8 at *
        subst f8
        clear hf
        go_wp2_with (fail)
        exact RQ.mk rfl ⟨(by first | rfl | (simp [FS28_2_19]; done) | (simp [FS28_2_19, *]; done) | (simp [FS28_2_19, gotV]; done) | (simp [FS28_2_19, gotV]; omega)), fun h => absurd h (by decide)⟩ (Below.refl _ _)
      | 10, _ =>
        injection ho with ho
        subst ho
        clear hl
        simp only [fillA, List.take, List.drop, put_none, Act.put, List.setIfInBounds_toArray, List.set_cons_zero, List.set_cons_succ, Nat.reduceAdd]
        have f8 := hf 8 (by decide) (by kernel_rfl)
        generalize vals 8 = v8 at *
        subst f8
        clear hf
        go_wp2_with (fail)
        exact RQ.mk rfl ⟨(by first | rfl | (simp [FS28_2_19]; done) | (simp [FS28_2_19, *]; done) | (simp [FS28_2_19, gotV]; done) | (simp [FS28_2_19, gotV]; omega)), fun h => absurd h (by decide)⟩ (Below.refl _ _)
      | 11, _ =>
        injection ho with ho
        subst ho
        clear hl
        simp only [fillA, List.take, List.drop, put_none, Act.put, List.setIfInBounds_toArray, List.set_cons_zero, List.set_cons_succ, Nat.reduceAdd]
        have f8 := hf 8 (by decide) (by kernel_rfl)
        generalize vals 8 = v8 at *
        subst f8
        clear hf
        go_wp2_with (fail)
        exact RQ.mk rfl ⟨(by first | rfl | (simp [FS28_2_19]; done) | (simp [FS28_2_19, *]; done) | (simp [FS28_2_19, gotV]; done) | (simp [FS28_2_19, gotV]; omega)), fun h => absurd h (by decide)⟩ (Below.refl _ _)
      | 12, _ =>
        injection ho with ho
        subst ho
        clear hl
        simp only [fillA, List.take, List.drop, put_none, Act.put, List.setIfInBounds_toArray, List.set_cons_zero, List.set_cons_succ, Nat.reduceAdd]
        have f10 := hf 10 (by decide) (by kernel_rfl)
        generalize vals 10 = v10 at *
        subst f10
        have f11 := hf 11 (by decide) (by kernel_rfl)
        generalize vals 11 = v11 at *
        subst f11
        have f8 := hf 8 (by decide) (by kernel_rfl)
        generalize vals 8 = v8 at *
        subst f8
        clear hf
        go_wp2_with (fail)
        exact RQ.mk rfl ⟨(by first | rfl | (simp [FS28_2_19]; done) | (simp [FS28_2_19, *]; done) | (simp [FS28_2_19, gotV]; done) | (simp [FS28_2_19, gotV]; omega)), fun h => absurd h (by decide)⟩ (Below.refl _ _)
      | 13, _ =>
        injection ho with ho
        subst ho
        clear hl
        simp only [fillA, List.take, List.drop, put_none, Act.put, List.setIfInBounds_toArray, List.set_cons_zero, List.set_cons_succ, Nat.reduceAdd]
        have f12 := hf 12 (by decide) (by kernel_rfl)
        generalize vals 12 = v12 at *
        subst f12
        have f8 := hf 8 (by decide) (by kernel_rfl)
        generalize vals 8 = v8 at *
        subst f8
        clear hf
        go_wp2_with (fail)
        exact RQ.mk rfl ⟨(by first | rfl | (simp [FS28_2_19]; done) | (simp [FS28_2_19, *]; done) | (simp [FS28_2_19, gotV]; done) | (simp [FS28_2_19, gotV]; omega)), fun h => absurd h (by decide)⟩ (Below.refl _ _)
      | 14, _ =>
        injection ho with ho
        subst ho
        clear hl
        simp only [fillA, List.take, List.drop, put_none, Act.put, List.setIfInBounds_toArray, List.set_cons_zero, List.set_cons_succ, Nat.reduceAdd]
        have f13 := hf 13 (by decide) (by kernel_rfl)
        generalize vals 13 = v13 at *
        subst f13
        have f8 := hf 8 (by decide) (by kernel_rfl)
        generalize vals 8 = v8 at *
        subst f8
        clear hf
        go_wp2_with (fail)
        exact RQ.mk rfl ⟨(by first | rfl | (simp [FS28_2_19]; done) | (simp [FS28_2_19, *]; done) | (simp [FS28_2_19, gotV]; done) | (simp [FS28_2_19, gotV]; omega)), fun h => absurd h (by decide)⟩ (Below.refl _ _)
      | 15, _ =>
        injection ho with ho
        subst ho
        clear hl
        simp only [fillA, List.take, List.drop, put_none, Act.put, List.setIfInBounds_toArray, List.set_cons_zero, List.set_cons_succ, Nat.reduceAdd]
        have f14 := hf 14 (by decide) (by kernel_rfl)
        generalize vals 14 = v14 at *
        subst f14
        have f8 := hf 8 (by decide) (by kernel_rfl)
        generalize vals 8 = v8 at *
        subst f8
        clear hf
        go_wp2_with (fail)
        exact RQ.mk rfl ⟨(by first | rfl | (simp [FS28_2_19]; done) | (simp [FS28_2_19, *]; done) | (simp [FS28_2_19, gotV]; done) | (simp [FS28_2_19, gotV]; omega)), fun h => absurd h (by decide)⟩ (Below.refl _ _)
      | 16, _ =>
        injection ho with ho
        subst ho
        clear hl
        simp only [fillA, List.take, List.drop, put_none, Act.put, List.setIfInBounds_toArray, List.set_cons_zero, List.set_cons_succ, Nat.reduceAdd]
        have f8 := hf 8 (by decide) (by kernel_rfl)
        generalize vals 8 = v8 at *
        subst f8
        clear hf
        go_wp2_with (fail)
        exact RQ.mk rfl ⟨(by first | rfl | (simp [FS28_2_19]; done) | (simp [FS28_2_19, *]; done) | (simp [FS28_2_19, gotV]; done) | (simp [FS28_2_19, gotV]; omega)), fun h => absurd h (by decide)⟩ (Below.refl _ _)
      | 17, _ =>
        injection ho with ho
        subst ho
        clear hl
        simp only [fillA, List.take, List.drop, put_none, Act.put, List.setIfInBounds_toArray, List.set_cons_zero, List.set_cons_succ, Nat.reduceAdd]
        have f8 := hf 8 (by decide) (by kernel_rfl)
        generalize vals 8 = v8 at *
        subst f8
        clear hf
        go_wp2_with (fail)
        exact RQ.mk rfl ⟨(by first | rfl | (simp [FS28_2_19]; done) | (simp [FS28_2_19, *]; done) | (simp [FS28_2_19, gotV]; done) | (simp [FS28_2_19, gotV]; omega)), fun h => absurd h (by decide)⟩ (Below.refl _ _)
      | 18, _ =>
        injection ho with ho
        subst ho
        clear hl
        simp only [fillA, List.take, List.drop, put_none, Act.put, List.setIfInBounds_toArray, List.set_cons_zero, List.set_cons_succ, Nat.reduceAdd]
        have f16 := hf 16 (by decide) (by kernel_rfl)
        generalize vals 16 = v16 at *
        subst f16
        have f17 := hf 17 (by decide) (by kernel_rfl)
        generalize vals 17 = v17 at *
        subst f17
        have f8 := hf 8 (by decide) (by kernel_rfl)
        generalize vals 8 = v8 at *
        subst f8
        clear hf
        go_wp2_with (fail)
        exact RQ.mk rfl ⟨(by first | rfl | (simp [FS28_2_19]; done) | (simp [FS28_2_19, *]; done) | (simp [FS28_2_19, gotV]; done) | (simp [FS28_2_19, gotV]; omega)), fun h => absurd h (by decide)⟩ (Below.refl _ _)
      | 19, _ =>
        injection ho with ho
        subst ho
        clear hl
        simp only [fillA, List.take, List.drop, put_none, Act.put, List.setIfInBounds_toArray, List.set_cons_zero, List.set_cons_succ, Nat.reduceAdd]
        have f18 := hf 18 (by decide) (by kernel_rfl)
        generalize vals 18 = v18 at *
        subst f18
        have f8 := hf 8 (by decide) (by kernel_rfl)
        generalize vals 8 = v8 at *
        subst f8
        clear hf
        go_wp2_with (fail)
        exact RQ.mk rfl ⟨(by first | rfl | (simp [FS28_2_19]; done) | (simp [FS28_2_19, *]; done) | (simp [FS28_2_19, gotV]; done) | (simp [FS28_2_19, gotV]; omega)), fun h => absurd h (by decide)⟩ (Below.refl _ _)
      | 20, _ =>
        injection ho with ho
        subst ho
        clear hl
        simp only [fillA, List.take, List.drop, put_none, Act.put, List.setIfInBounds_toArray, List.set_cons_zero, List.set_cons_succ, Nat.reduceAdd]
        have f19 := hf 19 (by decide) (by kernel_rfl)
        generalize vals 19 = v19 at *
        subst f19
        have f8 := hf 8 (by decide) (by kernel_rfl)
        generalize vals 8 = v8 at *
        subst f8
        clear hf
        go_wp2_with (fail)
        exact RQ.mk rfl ⟨(by first | rfl | (simp [FS28_2_19]; done) | (simp [FS28_2_19, *]; done) | (simp [FS28_2_19, gotV]; done) | (simp [FS28_2_19, gotV]; omega)), fun h => absurd h (by decide)⟩ (Below.refl _ _)
      | 21, _ =>
        injection ho with ho
        subst ho
        clear hl
        simp only [fillA, List.take, List.drop, put_none, Act.put, List.setIfInBounds_toArray, List.set_cons_zero, List.set_cons_succ, Nat.reduceAdd]
        have f20 := hf 20 (by decide) (by kernel_rfl)
        generalize vals 20 = v20 at *
        subst f20
        have f8 := hf 8 (by decide) (by kernel_rfl)
        generalize vals 8 = v8 at *
        subst f8
        clear hf
        go_wp2_with (fail)
        exact RQ.mk rfl ⟨(by first | rfl | (simp [FS28_2_19]; done) | (simp [FS28_2_19, *]; done) | (simp [FS28_2_19, gotV]; done) | (simp [FS28_2_19, gotV]; omega)), fun h => absurd h (by decide)⟩ (Below.refl _ _)
      | 22, _ =>
        injection ho with ho
        subst ho
        clear hl
        simp only [fillA, List.take, List.drop, put_none, Act.put, List.setIfInBounds_toArray, List.set_cons_zero, List.set_cons_succ, Nat.reduceAdd]
        have f9 := hf 9 (by decide) (by kernel_rfl)
        generalize vals 9 = v9 at *
        subst f9
        have f15 := hf 15 (by decide) (by kernel_rfl)
        generalize vals 15 = v15 at *
        subst f15
        have f21 := hf 21 (by decide) (by kernel_rfl)
        generalize vals 21 = v21 at *
        subst f21
        have f8 := hf 8 (by decide) (by kernel_rfl)
        generalize vals 8 = v8 at *
        subst f8
        clear hf
        go_wp2_with (first | (go_at_call 53; refine (c_impl_inside _ _ _ _ ).mono ?_; rintro e w' ⟨rfl, hb⟩; have hc := cellOf hb; have hf := frozOf hb; have hz := sizeOf hb; try simp at hz))
        exact RQ.mk rfl ⟨(by first | rfl | (simp [FS28_2_19]; done) | (simp [FS28_2_19, *]; done) | (simp [FS28_2_19, gotV]; done) | (simp [FS28_2_19, gotV]; omega)), fun h => absurd h (by decide)⟩ (Below.refl _ _)
      | 23, _ =>
        injection ho with ho
        subst ho
        clear hl
        simp only [fillA, List.take, List.drop, put_none, Act.put, List.setIfInBounds_toArray, List.set_cons_zero, List.set_cons_succ, Nat.reduceAdd]
        have f22 := hf 22 (by decide) (by kernel_rfl)
        generalize vals 22 = v22 at *
        subst f22
        have f8 := hf 8 (by decide) (by kernel_rfl)
        generalize vals 8 = v8 at *
        subst f8
        clear hf
        go_wp2_with (fail)
        exact RQ.mk rfl ⟨(by first | rfl | (simp [FS28_2_19]; done) | (simp [FS28_2_19, *]; done) | (simp [FS28_2_19, gotV]; done) | (simp [FS28_2_19, gotV]; omega)), fun h => absurd h (by decide)⟩ (Below.refl _ _)
      | 24, _ =>
        injection ho with ho
        subst ho
        clear hl
        simp only [fillA, List.take, List.drop, put_none, Act.put, List.setIfInBounds_toArray, List.set_cons_zero, List.set_cons_succ, Nat.reduceAdd]
        have f8 := hf 8 (by decide) (by kernel_rfl)
        generalize vals 8 = v8 at *
        subst f8
        have f23 := hf 23 (by decide) (by kernel_rfl)
        generalize vals 23 = v23 at *
        subst f23
        clear hf
        go_wp2_with (fail)
        exact RQ.mk rfl ⟨(by first | rfl | (simp [FS28_2_19]; done) | (simp [FS28_2_19, *]; done) | (simp [FS28_2_19, gotV]; done) | (simp [FS28_2_19, gotV]; omega)), fun h => absurd h (by decide)⟩ (Below.refl _ _)
      | m + 25, h => exact absurd h (by omega)
    · intro vals w1 hb1 hf hd
      simp only [fillA, List.take, List.drop, put_none, Act.put, List.setIfInBounds_toArray, List.set_cons_zero, List.set_cons_succ, Nat.reduceAdd]
      clear hd
      have f0 := hf 0 (by decide)
      generalize vals 0 = v0 at *
      subst f0
      have f1 := hf 1 (by decide)
      generalize vals 1 = v1 at *
      subst f1
      have f2 := hf 2 (by decide)
      generalize vals 2 = v2 at *
      subst f2
      have f3 := hf 3 (by decide)
      generalize vals 3 = v3 at *
      subst f3
      have f4 := hf 4 (by decide)
      generalize vals 4 = v4 at *
      subst f4
      have f5 := hf 5 (by decide)
      generalize vals 5 = v5 at *
      subst f5
      have f6 := hf 6 (by decide)
      generalize vals 6 = v6 at *
      subst f6
      have f7 := hf 7 (by decide)
      generalize vals 7 = v7 at *
      subst f7
      have f8 := hf 8 (by decide)
      generalize vals 8 = v8 at *
      subst f8
      have f9 := hf 9 (by decide)
      generalize vals 9 = v9 at *
      subst f9
      have f10 := hf 10 (by decide)
      generalize vals 10 = v10 at *
      subst f10
      have f11 := hf 11 (by decide)
      generalize vals 11 = v11 at *
      subst f11
      have f12 := hf 12 (by decide)
      generalize vals 12 = v12 at *
      subst f12
      have f13 := hf 13 (by decide)
      generalize vals 13 = v13 at *
      subst f13
      have f14 := hf 14 (by decide)
      generalize vals 14 = v14 at *
      subst f14
      have f15 := hf 15 (by decide)
      generalize vals 15 = v15 at *
      subst f15
      have f16 := hf 16 (by decide)
      generalize vals 16 = v16 at *
      subst f16
      have f17 := hf 17 (by decide)
      generalize vals 17 = v17 at *
      subst f17
      have f18 := hf 18 (by decide)
      generalize vals 18 = v18 at *
      subst f18
      have f19 := hf 19 (by decide)
      generalize vals 19 = v19 at *
      subst f19
      have f20 := hf 20 (by decide)
      generalize vals 20 = v20 at *
      subst f20
      have f21 := hf 21 (by decide)
      generalize vals 21 = v21 at *
      subst f21
      have f22 := hf 22 (by decide)
      generalize vals 22 = v22 at *
      subst f22
      have f23 := hf 23 (by decide)
      generalize vals 23 = v23 at *
      subst f23
      have f24 := hf 24 (by decide)
      generalize vals 24 = v24 at *
      subst f24
      clear hf
      have hc1 := cellOf hb1
      have hf1 := frozOf hb1
      have hz1 := sizeOf hb1
      try simp at hz1
      go_wp2_with (fail)
      go_ret2
      simp only [HV.out]
      exact ⟨none, 0, rfl, .inl ⟨rfl, rfl, rfl⟩, by (repeat' (first | exact Below.refl _ _ | assumption | refine Below.setCell ?_ ?_ _ | refine Below.drew ?_ | refine Below.alloc ?_ ?_ _ | refine Below.trans ?_ (Below.mono (by assumption) ?_) | (simp; done) | (simp; omega) | omega))⟩
  | some k =>
    have hgi := idx_some hfi
    have hlt := findId_lt hfi
    have hlen := berV_len hs0
    have hqb := inB_bd (berV_quay hs0)
    have hxb := berOk_bd (berV_at hs0 k hlt)
    obtain ⟨bx, ox, rfl, hbx, hcx⟩ := Rds.all hx (by omega)
    have hx3 := hcx k hlt 3 _ rfl
    have hx4 := hcx k hlt 4 _ rfl
    have HX := hid hcx
    clear hcx
    by_cases hi : inB h (xs[k].2.2.2.1 + 1) (xs[k].2.2.2.2 - 1) = true
    rotate_left
    · have hin : inB h (xs[k].2.2.2.1 + 1) (xs[k].2.2.2.2 - 1) = false := Bool.eq_false_iff.2 hi
      have HV := hid (leaveV_none (q := q) (leaveL_out hlt hfi hin))
      clear hi hfi HX
      obtain ⟨x, hxk⟩ : ∃ x, x = xs[k] := ⟨_, rfl⟩
      simp only [← hxk] at hx3 hx4 hxb hin
      clear hxk
      go_enter Try.func28, Try.ntmps28
      go_wp2_with (first | (go_at_call 62; refine (c_idx_same _ _ _ z w.heap.size _ (by first | assumption | exact Rds.below hx (by (repeat' (first | exact Below.refl _ _ | assumption | refine Below.setCell ?_ ?_ _ | refine Below.drew ?_ | refine Below.alloc ?_ ?_ _ | refine Below.trans ?_ (Below.mono (by assumption) ?_) | (simp; done) | (simp; omega) | omega)))) (by omega) (by first | assumption | (simp [go_sem, ↓IntWalk.iteOmega, *]; done)) (by first | omega | (simp; done) | (simp; omega))).mono ?_; rintro e w' ⟨rfl, hb⟩; have hc := cellOf hb; have hf := frozOf hb; have hz := sizeOf hb; try simp at hz))
      refine wp_region_w (n := 25) [] [] (FS28_2_20 q xs h xs.length cap x k bx ox w) rfl (by kernel_rfl) (fun _ _ d _ _ h => by cases d <;> exact h) ?_ ?_ ?_ ?_ ?_ ?_
      · intro iq
        match iq with
        | 0 | 1 | 2 | 3 | 4 | 5 | 6 | 7 | 8 | 9 | 10 | 11 | 12 | 13 | 14 | 15 | 16 | 17 | 18 | 19 | 20 | 21 | 22 | 23 | 24 => exact Stable.const _
        | n + 25 => exact Stable.const _
      · intro iq hi
        exact absurd hi (by simp)
      · intro iq hi
        exact absurd hi (by simp)
      · intro iq o hi hl ho vals w1 hb1 hf
        exact absurd hl (by simp)
      · intro iq o hi hl ho vals w1 hb1 hf
        match iq, hi with
        | 0, _ =>
          injection ho with ho
          subst ho
          clear hl
          simp only [fillA, List.take, List.drop, put_none, Act.put, List.setIfInBounds_toArray, List.set_cons_zero, List.set_cons_succ, Nat.reduceAdd]
          clear hf
          go_wp2_with (fail)
          exact RQ.mk rfl ⟨(by first | rfl | (simp [FS28_2_20]; done) | (simp [FS28_2_20, *]; done) | (simp [FS28_2_20, gotV]; done) | (simp [FS28_2_20, gotV]; omega)), fun h => absurd h (by decide)⟩ (Below.refl _ _)
        | 1, _ =>
          injection ho with ho
          subst ho
          clear hl
          simp only [fillA, List.take, List.drop, put_none, Act.put, List.setIfInBounds_toArray, List.set_cons_zero, List.set_cons_succ, Nat.reduceAdd]
          clear hf
          go_wp2_with (fail)
          exact RQ.mk rfl ⟨(by first | rfl | (simp [FS28_2_20]; done) | (simp [FS28_2_20, *]; done) | (simp [FS28_2_20, gotV]; done) | (simp [FS28_2_20, gotV]; omega)), fun h => absurd h (by decide)⟩ (Below.refl _ _)
        | 2, _ =>
          injection ho with ho
          subst ho
          clear hl
          simp only [fillA, List.take, List.drop, put_none, Act.put, List.setIfInBounds_toArray, List.set_cons_zero, List.set_cons_succ, Nat.reduceAdd]
          have f0 := hf 0 (by decide) (by kernel_rfl)
          generalize vals 0 = v0 at *
          subst f0
          have f1 := hf 1 (by decide) (by kernel_rfl)
          generalize vals 1 = v1 at *
          subst f1
          clear hf
          have hc1 := cellOf hb1
          have hf1 := frozOf hb1
          have hz1 := sizeOf hb1
          try simp at hz1
          go_wp2_with (first | (go_at_call 17; refine (c_impl_IsBerthing _ _ _ _ _ (by first | assumption | exact Rds.below hx (by (repeat' (first | exact Below.refl _ _ | assumption | refine Below.setCell ?_ ?_ _ | refine Below.drew ?_ | refine Below.alloc ?_ ?_ _ | refine Below.trans ?_ (Below.mono (by assumption) ?_) | (simp; done) | (simp; omega) | omega)))) (by omega) (by omega) (by omega)).mono ?_; rintro e w' ⟨rfl, hb⟩; have hc := cellOf hb; have hf := frozOf hb; have hz := sizeOf hb; try simp at hz))
          exact RQ.mk rfl ⟨(by first | rfl | (simp [FS28_2_20]; done) | (simp [FS28_2_20, *]; done) | (simp [FS28_2_20, gotV]; done) | (simp [FS28_2_20, gotV]; omega)), fun h => absurd h (by decide)⟩ (by (repeat' (first | exact Below.refl _ _ | assumption | refine Below.setCell ?_ ?_ _ | refine Below.drew ?_ | refine Below.alloc ?_ ?_ _ | refine Below.trans ?_ (Below.mono (by assumption) ?_) | (simp; done) | (simp; omega) | omega)))
        | 3, _ =>
          injection ho with ho
          subst ho
          clear hl
          simp only [fillA, List.take, List.drop, put_none, Act.put, List.setIfInBounds_toArray, List.set_cons_zero, List.set_cons_succ, Nat.reduceAdd]
          have f2 := hf 2 (by decide) (by kernel_rfl)
          generalize vals 2 = v2 at *
          subst f2
          clear hf
          go_wp2_with (fail)
          exact RQ.mk rfl ⟨(by first | rfl | (simp [FS28_2_20]; done) | (simp [FS28_2_20, *]; done) | (simp [FS28_2_20, gotV]; done) | (simp [FS28_2_20, gotV]; omega)), fun h => absurd h (by decide)⟩ (Below.refl _ _)
        | 4, _ =>
          injection ho with ho
          subst ho
          clear hl
          simp only [fillA, List.take, List.drop, put_none, Act.put, List.setIfInBounds_toArray, List.set_cons_zero, List.set_cons_succ, Nat.reduceAdd]
          have f3 := hf 3 (by decide) (by kernel_rfl)
          generalize vals 3 = v3 at *
          subst f3
          have f2 := hf 2 (by decide) (by kernel_rfl)
          generalize vals 2 = v2 at *
          subst f2
          clear hf
          go_wp2_with (fail)
          exact RQ.mk rfl ⟨(by first | rfl | (simp [FS28_2_20]; done) | (simp [FS28_2_20, *]; done) | (simp [FS28_2_20, gotV]; done) | (simp [FS28_2_20, gotV]; omega)), fun h => absurd h (by decide)⟩ (Below.refl _ _)
        | 5, _ =>
          injection ho with ho
          subst ho
          clear hl
          simp only [fillA, List.take, List.drop, put_none, Act.put, List.setIfInBounds_toArray, List.set_cons_zero, List.set_cons_succ, Nat.reduceAdd]
          have f4 := hf 4 (by decide) (by kernel_rfl)
          generalize vals 4 = v4 at *
          subst f4
          clear hf
          go_wp2_with (fail)
          exact RQ.mk rfl ⟨(by first | rfl | (simp [FS28_2_20]; done) | (simp [FS28_2_20, *]; done) | (simp [FS28_2_20, gotV]; done) | (simp [FS28_2_20, gotV]; omega)), fun h => absurd h (by decide)⟩ (Below.refl _ _)
        | 6, _ =>
          injection ho with ho
          subst ho
          clear hl
          simp only [fillA, List.take, List.drop, put_none, Act.put, List.setIfInBounds_toArray, List.set_cons_zero, List.set_cons_succ, Nat.reduceAdd]
          have f5 := hf 5 (by decide) (by kernel_rfl)
          generalize vals 5 = v5 at *
          subst f5
          have f4 := hf 4 (by decide) (by kernel_rfl)
          generalize vals 4 = v4 at *
          subst f4
          clear hf
          go_wp2_with (fail)
          exact RQ.mk rfl ⟨(by first | rfl | (simp [FS28_2_20]; done) | (simp [FS28_2_20, *]; done) | (simp [FS28_2_20, gotV]; done) | (simp [FS28_2_20, gotV]; omega)), fun h => absurd h (by decide)⟩ (Below.refl _ _)
        | 7, _ =>
          injection ho with ho
          subst ho
          clear hl
          simp only [fillA, List.take, List.drop, put_none, Act.put, List.setIfInBounds_toArray, List.set_cons_zero, List.set_cons_succ, Nat.reduceAdd]
          have f4 := hf 4 (by decide) (by kernel_rfl)
          generalize vals 4 = v4 at *
          subst f4
          have f6 := hf 6 (by decide) (by kernel_rfl)
          generalize vals 6 = v6 at *
          subst f6
          clear hf
          go_wp2_with (fail)
          exact RQ.mk rfl ⟨(by first | rfl | (simp [FS28_2_20]; done) | (simp [FS28_2_20, *]; done) | (simp [FS28_2_20, gotV]; done) | (simp [FS28_2_20, gotV]; omega)), fun h => absurd h (by decide)⟩ (Below.refl _ _)
        | 8, _ =>
          injection ho with ho
          subst ho
          clear hl
          simp only [fillA, List.take, List.drop, put_none, Act.put, List.setIfInBounds_toArray, List.set_cons_zero, List.set_cons_succ, Nat.reduceAdd]
          have f7 := hf 7 (by decide) (by kernel_rfl)
          generalize vals 7 = v7 at *
          subst f7
          have f4 := hf 4 (by decide) (by kernel_rfl)
          generalize vals 4 = v4 at *
          subst f4
          clear hf
          go_wp2_with (fail)
          exact RQ.mk rfl ⟨(by first | rfl | (simp [FS28_2_20]; done) | (simp [FS28_2_20, *]; done) | (simp [FS28_2_20, gotV]; done) | (simp [FS28_2_20, gotV]; omega)), fun h => absurd h (by decide)⟩ (Below.refl _ _)
        | 9, _ =>
          injection ho with ho
          subst ho
          clear hl
          simp only [fillA, List.take, List.drop, put_none, Act.put, List.setIfInBounds_toArray, List.set_cons_zero, List.set_cons_succ, Nat.reduceAdd]
          have f8 := hf 8 (by decide) (by kernel_rfl)
          generalize vals 8 = v8 at *
          subst f8
          clear hf
          go_wp2_with (fail)
          exact RQ.mk rfl ⟨(by first | rfl | (simp [FS28_2_20]; done) | (simp [FS28_2_20, *]; done) | (simp [FS28_2_20, gotV]; done) | (simp [FS28_2_20, gotV]; omega)), fun h => absurd h (by decide)⟩ (Below.refl _ _)
        | 10, _ =>
          injection ho with ho
          subst ho
          clear hl
          simp only [fillA, List.take, List.drop, put_none, Act.put, List.setIfInBounds_toArray, List.set_cons_zero, List.set_cons_succ, Nat.reduceAdd]
          have f8 := hf 8 (by decide) (by kernel_rfl)
          generalize vals 8 = v8 at *
          subst f8
          clear hf
          go_wp2_with (fail)
          exact RQ.mk rfl ⟨(by first | rfl | (simp [FS28_2_20]; done) | (simp [FS28_2_20, *]; done) | (simp [FS28_2_20, gotV]; done) | (simp [FS28_2_20, gotV]; omega)), fun h => absurd h (by decide)⟩ (Below.refl _ _)
        | 11, _ =>
          injection ho with ho
          subst ho
          clear hl
          simp only [fillA, List.take, List.drop, put_none, Act.put, List.setIfInBounds_toArray, List.set_cons_zero, List.set_cons_succ, Nat.reduceAdd]
          have f8 := hf 8 (by decide) (by kernel_rfl)
          generalize vals 8 = v8 at *
          subst f8
          clear hf
          go_wp2_with (fail)
          exact RQ.mk rfl ⟨(by first | rfl | (simp [FS28_2_20]; done) | (simp [FS28_2_20, *]; done) | (simp [FS28_2_20, gotV]; done) | (simp [FS28_2_20, gotV]; omega)), fun h => absurd h (by decide)⟩ (Below.refl _ _)
        | 12, _ =>
          injection ho with ho
          subst ho
          clear hl
          simp only [fillA, List.take, List.drop, put_none, Act.put, List.setIfInBounds_toArray, List.set_cons_zero, List.set_cons_succ, Nat.reduceAdd]
          have f10 := hf 10 (by decide) (by kernel_rfl)
          generalize vals 10 = v10 at *
          subst f10
          have f11 := hf 11 (by decide) (by kernel_rfl)
          generalize vals 11 = v11 at *
          subst f11
          have f8 := hf 8 (by decide) (by kernel_rfl)
          generalize vals 8 = v8 at *
          subst f8
          clear hf
          go_wp2_with (fail)
          exact RQ.mk rfl ⟨(by first | rfl | (simp [FS28_2_20]; done) | (simp [FS28_2_20, *]; done) | (simp [FS28_2_20, gotV]; done) | (simp [FS28_2_20, gotV]; omega)), fun h => absurd h (by decide)⟩ (Below.refl _ _)
        | 13, _ =>
          injection ho with ho
          subst ho
          clear hl
          simp only [fillA, List.take, List.drop, put_none, Act.put, List.setIfInBounds_toArray, List.set_cons_zero, List.set_cons_succ, Nat.reduceAdd]
          have f12 := hf 12 (by decide) (by kernel_rfl)
          generalize vals 12 = v12 at *
          subst f12
          have f8 := hf 8 (by decide) (by kernel_rfl)
          generalize vals 8 = v8 at *
          subst f8
          clear hf
          go_wp2_with (fail)
          exact RQ.mk rfl ⟨(by first | rfl | (simp [FS28_2_20]; done) | (simp [FS28_2_20, *]; done) | (simp [FS28_2_20, gotV]; done) | (simp [FS28_2_20, gotV]; omega)), fun h => absurd h (by decide)⟩ (Below.refl _ _)
        | 14, _ =>
          injection ho with ho
          subst ho
          clear hl
          simp only [fillA, List.take, List.drop, put_none, Act.put, List.setIfInBounds_toArray, List.set_cons_zero, List.set_cons_succ, Nat.reduceAdd]
          have f13 := hf 13 (by decide) (by kernel_rfl)
          generalize vals 13 = v13 at *
          subst f13
          have f8 := hf 8 (by decide) (by kernel_rfl)
          generalize vals 8 = v8 at *
          subst f8
          clear hf
          have hc1 := cellOf hb1
          have hf1 := frozOf hb1
          have hz1 := sizeOf hb1
          try simp at hz1
          go_wp2_with (fail)
          exact RQ.mk rfl ⟨(by first | rfl | (simp [FS28_2_20]; done) | (simp [FS28_2_20, *]; done) | (simp [FS28_2_20, gotV]; done) | (simp [FS28_2_20, gotV]; omega)), fun h => absurd h (by decide)⟩ (Below.refl _ _)
        | 15, _ =>
          injection ho with ho
          subst ho
          clear hl
          simp only [fillA, List.take, List.drop, put_none, Act.put, List.setIfInBounds_toArray, List.set_cons_zero, List.set_cons_succ, Nat.reduceAdd]
          have f14 := hf 14 (by decide) (by kernel_rfl)
          generalize vals 14 = v14 at *
          subst f14
          have f8 := hf 8 (by decide) (by kernel_rfl)
          generalize vals 8 = v8 at *
          subst f8
          clear hf
          go_wp2_with (fail)
          exact RQ.mk rfl ⟨(by first | rfl | (simp [FS28_2_20]; done) | (simp [FS28_2_20, *]; done) | (simp [FS28_2_20, gotV]; done) | (simp [FS28_2_20, gotV]; omega)), fun h => absurd h (by decide)⟩ (Below.refl _ _)
        | 16, _ =>
          injection ho with ho
          subst ho
          clear hl
          simp only [fillA, List.take, List.drop, put_none, Act.put, List.setIfInBounds_toArray, List.set_cons_zero, List.set_cons_succ, Nat.reduceAdd]
          have f8 := hf 8 (by decide) (by kernel_rfl)
          generalize vals 8 = v8 at *
          subst f8
          clear hf
          go_wp2_with (fail)
          exact RQ.mk rfl ⟨(by first | rfl | (simp [FS28_2_20]; done) | (simp [FS28_2_20, *]; done) | (simp [FS28_2_20, gotV]; done) | (simp [FS28_2_20, gotV]; omega)), fun h => absurd h (by decide)⟩ (Below.refl _ _)
        | 17, _ =>
          injection ho with ho
          subst ho
          clear hl
          simp only [fillA, List.take, List.drop, put_none, Act.put, List.setIfInBounds_toArray, List.set_cons_zero, List.set_cons_succ, Nat.reduceAdd]
          have f8 := hf 8 (by decide) (by kernel_rfl)
          generalize vals 8 = v8 at *
          subst f8
          clear hf
          go_wp2_with (fail)
          exact RQ.mk rfl ⟨(by first | rfl | (simp [FS28_2_20]; done) | (simp [FS28_2_20, *]; done) | (simp [FS28_2_20, gotV]; done) | (simp [FS28_2_20, gotV]; omega)), fun h => absurd h (by decide)⟩ (Below.refl _ _)
        | 18, _ =>
          injection ho with ho
          subst ho
          clear hl
          simp only [fillA, List.take, List.drop, put_none, Act.put, List.setIfInBounds_toArray, List.set_cons_zero, List.set_cons_succ, Nat.reduceAdd]
          have f16 := hf 16 (by decide) (by kernel_rfl)
          generalize vals 16 = v16 at *
          subst f16
          have f17 := hf 17 (by decide) (by kernel_rfl)
          generalize vals 17 = v17 at *
          subst f17
          have f8 := hf 8 (by decide) (by kernel_rfl)
          generalize vals 8 = v8 at *
          subst f8
          clear hf
          go_wp2_with (fail)
          exact RQ.mk rfl ⟨(by first | rfl | (simp [FS28_2_20]; done) | (simp [FS28_2_20, *]; done) | (simp [FS28_2_20, gotV]; done) | (simp [FS28_2_20, gotV]; omega)), fun h => absurd h (by decide)⟩ (Below.refl _ _)
        | 19, _ =>
          injection ho with ho
          subst ho
          clear hl
          simp only [fillA, List.take, List.drop, put_none, Act.put, List.setIfInBounds_toArray, List.set_cons_zero, List.set_cons_succ, Nat.reduceAdd]
          have f18 := hf 18 (by decide) (by kernel_rfl)
          generalize vals 18 = v18 at *
          subst f18
          have f8 := hf 8 (by decide) (by kernel_rfl)
          generalize vals 8 = v8 at *
          subst f8
          clear hf
          go_wp2_with (fail)
          exact RQ.mk rfl ⟨(by first | rfl | (simp [FS28_2_20]; done) | (simp [FS28_2_20, *]; done) | (simp [FS28_2_20, gotV]; done) | (simp [FS28_2_20, gotV]; omega)), fun h => absurd h (by decide)⟩ (Below.refl _ _)
        | 20, _ =>
          injection ho with ho
          subst ho
          clear hl
          simp only [fillA, List.take, List.drop, put_none, Act.put, List.setIfInBounds_toArray, List.set_cons_zero, List.set_cons_succ, Nat.reduceAdd]
          have f19 := hf 19 (by decide) (by kernel_rfl)
          generalize vals 19 = v19 at *
          subst f19
          have f8 := hf 8 (by decide) (by kernel_rfl)
          generalize vals 8 = v8 at *
          subst f8
          clear hf
          have hc1 := cellOf hb1
          have hf1 := frozOf hb1
          have hz1 := sizeOf hb1
          try simp at hz1
          go_wp2_with (fail)
          exact RQ.mk rfl ⟨(by first | rfl | (simp [FS28_2_20]; done) | (simp [FS28_2_20, *]; done) | (simp [FS28_2_20, gotV]; done) | (simp [FS28_2_20, gotV]; omega)), fun h => absurd h (by decide)⟩ (Below.refl _ _)
        | 21, _ =>
          injection ho with ho
          subst ho
          clear hl
          simp only [fillA, List.take, List.drop, put_none, Act.put, List.setIfInBounds_toArray, List.set_cons_zero, List.set_cons_succ, Nat.reduceAdd]
          have f20 := hf 20 (by decide) (by kernel_rfl)
          generalize vals 20 = v20 at *
          subst f20
          have f8 := hf 8 (by decide) (by kernel_rfl)
          generalize vals 8 = v8 at *
          subst f8
          clear hf
          go_wp2_with (fail)
          exact RQ.mk rfl ⟨(by first | rfl | (simp [FS28_2_20]; done) | (simp [FS28_2_20, *]; done) | (simp [FS28_2_20, gotV]; done) | (simp [FS28_2_20, gotV]; omega)), fun h => absurd h (by decide)⟩ (Below.refl _ _)
        | 22, _ =>
          injection ho with ho
          subst ho
          clear hl
          simp only [fillA, List.take, List.drop, put_none, Act.put, List.setIfInBounds_toArray, List.set_cons_zero, List.set_cons_succ, Nat.reduceAdd]
          have f9 := hf 9 (by decide) (by kernel_rfl)
          generalize vals 9 = v9 at *
          subst f9
          have f15 := hf 15 (by decide) (by kernel_rfl)
          generalize vals 15 = v15 at *
          subst f15
          have f21 := hf 21 (by decide) (by kernel_rfl)
          generalize vals 21 = v21 at *
          subst f21
          have f8 := hf 8 (by decide) (by kernel_rfl)
          generalize vals 8 = v8 at *
          subst f8
          clear hf
          have hc1 := cellOf hb1
          have hf1 := frozOf hb1
          have hz1 := sizeOf hb1
          try simp at hz1
          go_wp2_with (first | (go_at_call 53; refine (c_impl_inside _ _ _ _ ).mono ?_; rintro e w' ⟨rfl, hb⟩; have hc := cellOf hb; have hf := frozOf hb; have hz := sizeOf hb; try simp at hz))
          exact RQ.mk rfl ⟨(by first | rfl | (simp [FS28_2_20]; done) | (simp [FS28_2_20, *]; done) | (simp [FS28_2_20, gotV]; done) | (simp [FS28_2_20, gotV]; omega)), fun h => absurd h (by decide)⟩ (by (repeat' (first | exact Below.refl _ _ | assumption | refine Below.setCell ?_ ?_ _ | refine Below.drew ?_ | refine Below.alloc ?_ ?_ _ | refine Below.trans ?_ (Below.mono (by assumption) ?_) | (simp; done) | (simp; omega) | omega)))
        | 23, _ =>
          injection ho with ho
          subst ho
          clear hl
          simp only [fillA, List.take, List.drop, put_none, Act.put, List.setIfInBounds_toArray, List.set_cons_zero, List.set_cons_succ, Nat.reduceAdd]
          have f22 := hf 22 (by decide) (by kernel_rfl)
          generalize vals 22 = v22 at *
          subst f22
          have f8 := hf 8 (by decide) (by kernel_rfl)
          generalize vals 8 = v8 at *
          subst f8
          clear hf
          go_wp2_with (fail)
          exact RQ.mk rfl ⟨(by first | rfl | (simp [FS28_2_20]; done) | (simp [FS28_2_20, *]; done) | (simp [FS28_2_20, gotV]; done) | (simp [FS28_2_20, gotV]; omega)), fun h => absurd h (by decide)⟩ (Below.refl _ _)
        | 24, _ =>
          injection ho with ho
          subst ho
          clear hl
          simp only [fillA, List.take, List.drop, put_none, Act.put, List.setIfInBounds_toArray, List.set_cons_zero, List.set_cons_succ, Nat.reduceAdd]
          have f8 := hf 8 (by decide) (by kernel_rfl)
          generalize vals 8 = v8 at *
          subst f8
          have f23 := hf 23 (by decide) (by kernel_rfl)
          generalize vals 23 = v23 at *
          subst f23
          clear hf
          go_wp2_with (fail)
          exact RQ.mk rfl ⟨(by first | rfl | (simp [FS28_2_20]; done) | (simp [FS28_2_20, *]; done) | (simp [FS28_2_20, gotV]; done) | (simp [FS28_2_20, gotV]; omega)), fun h => absurd h (by decide)⟩ (Below.refl _ _)
        | m + 25, h => exact absurd h (by omega)
      · intro vals w1 hb1 hf hd
        simp only [fillA, List.take, List.drop, put_none, Act.put, List.setIfInBounds_toArray, List.set_cons_zero, List.set_cons_succ, Nat.reduceAdd]
        clear hd
        have f0 := hf 0 (by decide)
        generalize vals 0 = v0 at *
        subst f0
        have f1 := hf 1 (by decide)
        generalize vals 1 = v1 at *
        subst f1
        have f2 := hf 2 (by decide)
        generalize vals 2 = v2 at *
        subst f2
        have f3 := hf 3 (by decide)
        generalize vals 3 = v3 at *
        subst f3
        have f4 := hf 4 (by decide)
        generalize vals 4 = v4 at *
        subst f4
        have f5 := hf 5 (by decide)
        generalize vals 5 = v5 at *
        subst f5
        have f6 := hf 6 (by decide)
        generalize vals 6 = v6 at *
        subst f6
        have f7 := hf 7 (by decide)
        generalize vals 7 = v7 at *
        subst f7
        have f8 := hf 8 (by decide)
        generalize vals 8 = v8 at *
        subst f8
        have f9 := hf 9 (by decide)
        generalize vals 9 = v9 at *
        subst f9
        have f10 := hf 10 (by decide)
        generalize vals 10 = v10 at *
        subst f10
        have f11 := hf 11 (by decide)
        generalize vals 11 = v11 at *
        subst f11
        have f12 := hf 12 (by decide)
        generalize vals 12 = v12 at *
        subst f12
        have f13 := hf 13 (by decide)
        generalize vals 13 = v13 at *
        subst f13
        have f14 := hf 14 (by decide)
        generalize vals 14 = v14 at *
        subst f14
        have f15 := hf 15 (by decide)
        generalize vals 15 = v15 at *
        subst f15
        have f16 := hf 16 (by decide)
        generalize vals 16 = v16 at *
        subst f16
        have f17 := hf 17 (by decide)
        generalize vals 17 = v17 at *
        subst f17
        have f18 := hf 18 (by decide)
        generalize vals 18 = v18 at *
        subst f18
        have f19 := hf 19 (by decide)
        generalize vals 19 = v19 at *
        subst f19
        have f20 := hf 20 (by decide)
        generalize vals 20 = v20 at *
        subst f20
        have f21 := hf 21 (by decide)
        generalize vals 21 = v21 at *
        subst f21
        have f22 := hf 22 (by decide)
        generalize vals 22 = v22 at *
        subst f22
        have f23 := hf 23 (by decide)
        generalize vals 23 = v23 at *
        subst f23
        have f24 := hf 24 (by decide)
        generalize vals 24 = v24 at *
        subst f24
        clear hf
        have hc1 := cellOf hb1
        have hf1 := frozOf hb1
        have hz1 := sizeOf hb1
        try simp at hz1
        go_wp2_with (fail)
        go_ret2
        simp only [HV.out]
        exact ⟨none, 0, rfl, .inl ⟨rfl, rfl, rfl⟩, by (repeat' (first | exact Below.refl _ _ | assumption | refine Below.setCell ?_ ?_ _ | refine Below.drew ?_ | refine Below.alloc ?_ ?_ _ | refine Below.trans ?_ (Below.mono (by assumption) ?_) | (simp; done) | (simp; omega) | omega))⟩
    have HV := hid (leaveV_some hs0 (leaveL_at hlt hfi hi))
    clear hfi
    obtain ⟨x, hxk⟩ : ∃ x, x = xs[k] := ⟨_, rfl⟩
    simp only [← hxk] at hx3 hx4 hxb hi HV
    have HXK := hid hxk
    clear hxk
    go_enter Try.func28, Try.ntmps28
    go_wp2_with (first | (go_at_call 62; refine (c_idx_same _ _ _ z w.heap.size _ (by first | assumption | exact Rds.below hx (by (repeat' (first | exact Below.refl _ _ | assumption | refine Below.setCell ?_ ?_ _ | refine Below.drew ?_ | refine Below.alloc ?_ ?_ _ | refine Below.trans ?_ (Below.mono (by assumption) ?_) | (simp; done) | (simp; omega) | omega)))) (by omega) (by first | assumption | (simp [go_sem, ↓IntWalk.iteOmega, *]; done)) (by first | omega | (simp; done) | (simp; omega))).mono ?_; rintro e w' ⟨rfl, hb⟩; have hc := cellOf hb; have hf := frozOf hb; have hz := sizeOf hb; try simp at hz))
    refine wp_region_w (n := 25) [] [] (FS28_2_21 q xs h xs.length cap x k bx ox w) rfl (by kernel_rfl) (fun _ _ d _ _ h => by cases d <;> exact h) ?_ ?_ ?_ ?_ ?_ ?_
    · intro iq
      match iq with
      | 0 | 1 | 2 | 3 | 4 | 5 | 6 | 7 | 8 | 9 | 10 | 11 | 12 | 13 | 14 | 15 | 16 | 17 | 18 | 19 | 20 | 21 | 22 | 23 | 24 => exact Stable.const _
      | n + 25 => exact Stable.const _
    · intro iq hi
      exact absurd hi (by simp)
    · intro iq hi
      exact absurd hi (by simp)
    · intro iq o hi hl ho vals w1 hb1 hf
      exact absurd hl (by simp)
    · intro iq o hi hl ho vals w1 hb1 hf
      match iq, hi with
      | 0, _ =>
        injection ho with ho
        subst ho
        clear hl
        simp only [fillA, List.take, List.drop, put_none, Act.put, List.setIfInBounds_toArray, List.set_cons_zero, List.set_cons_succ, Nat.reduceAdd]
        clear hf
        go_wp2_with (fail)
        exact RQ.mk rfl ⟨(by first | rfl | (simp [FS28_2_21]; done) | (simp [FS28_2_21, *]; done) | (simp [FS28_2_21, gotV]; done) | (simp [FS28_2_21, gotV]; omega)), fun h => absurd h (by decide)⟩ (Below.refl _ _)
      | 1, _ =>
        injection ho with ho
        subst ho
        clear hl
        simp only [fillA, List.take, List.drop, put_none, Act.put, List.setIfInBounds_toArray, List.set_cons_zero, List.set_cons_succ, Nat.reduceAdd]
        clear hf
        go_wp2_with (fail)
        exact RQ.mk rfl ⟨(by first | rfl | (simp [FS28_2_21]; done) | (simp [FS28_2_21, *]; done) | (simp [FS28_2_21, gotV]; done) | (simp [FS28_2_21, gotV]; omega)), fun h => absurd h (by decide)⟩ (Below.refl _ _)
      | 2, _ =>
        injection ho with ho
        subst ho
        clear hl
        simp only [fillA, List.take, List.drop, put_none, Act.put, List.setIfInBounds_toArray, List.set_cons_zero, List.set_cons_succ, Nat.reduceAdd]
        have f0 := hf 0 (by decide) (by kernel_rfl)
        generalize vals 0 = v0 at *
        subst f0
        have f1 := hf 1 (by decide) (by kernel_rfl)
        generalize vals 1 = v1 at *
        subst f1
        clear hf
        have hc1 := cellOf hb1
        have hf1 := frozOf hb1
        have hz1 := sizeOf hb1
        try simp at hz1
        go_wp2_with (first | (go_at_call 17; refine (c_impl_IsBerthing _ _ _ _ _ (by first | assumption | exact Rds.below hx (by (repeat' (first | exact Below.refl _ _ | assumption | refine Below.setCell ?_ ?_ _ | refine Below.drew ?_ | refine Below.alloc ?_ ?_ _ | refine Below.trans ?_ (Below.mono (by assumption) ?_) | (simp; done) | (simp; omega) | omega)))) (by omega) (by omega) (by omega)).mono ?_; rintro e w' ⟨rfl, hb⟩; have hc := cellOf hb; have hf := frozOf hb; have hz := sizeOf hb; try simp at hz))
        exact RQ.mk rfl ⟨(by first | rfl | (simp [FS28_2_21]; done) | (simp [FS28_2_21, *]; done) | (simp [FS28_2_21, gotV]; done) | (simp [FS28_2_21, gotV]; omega)), fun h => absurd h (by decide)⟩ (by (repeat' (first | exact Below.refl _ _ | assumption | refine Below.setCell ?_ ?_ _ | refine Below.drew ?_ | refine Below.alloc ?_ ?_ _ | refine Below.trans ?_ (Below.mono (by assumption) ?_) | (simp; done) | (simp; omega) | omega)))
      | 3, _ =>
        injection ho with ho
        subst ho
        clear hl
        simp only [fillA, List.take, List.drop, put_none, Act.put, List.setIfInBounds_toArray, List.set_cons_zero, List.set_cons_succ, Nat.reduceAdd]
        have f2 := hf 2 (by decide) (by kernel_rfl)
        generalize vals 2 = v2 at *
        subst f2
        clear hf
        go_wp2_with (fail)
        exact RQ.mk rfl ⟨(by first | rfl | (simp [FS28_2_21]; done) | (simp [FS28_2_21, *]; done) | (simp [FS28_2_21, gotV]; done) | (simp [FS28_2_21, gotV]; omega)), fun h => absurd h (by decide)⟩ (Below.refl _ _)
      | 4, _ =>
        injection ho with ho
        subst ho
        clear hl
        simp only [fillA, List.take, List.drop, put_none, Act.put, List.setIfInBounds_toArray, List.set_cons_zero, List.set_cons_succ, Nat.reduceAdd]
        have f3 := hf 3 (by decide) (by kernel_rfl)
        generalize vals 3 = v3 at *
        subst f3
        have f2 := hf 2 (by decide) (by kernel_rfl)
        generalize vals 2 = v2 at *
        subst f2
        clear hf
        go_wp2_with (fail)
        exact RQ.mk rfl ⟨(by first | rfl | (simp [FS28_2_21]; done) | (simp [FS28_2_21, *]; done) | (simp [FS28_2_21, gotV]; done) | (simp [FS28_2_21, gotV]; omega)), fun h => absurd h (by decide)⟩ (Below.refl _ _)
      | 5, _ =>
        injection ho with ho
        subst ho
        clear hl
        simp only [fillA, List.take, List.drop, put_none, Act.put, List.setIfInBounds_toArray, List.set_cons_zero, List.set_cons_succ, Nat.reduceAdd]
        have f4 := hf 4 (by decide) (by kernel_rfl)
        generalize vals 4 = v4 at *
        subst f4
        clear hf
        go_wp2_with (fail)
        exact RQ.mk rfl ⟨(by first | rfl | (simp [FS28_2_21]; done) | (simp [FS28_2_21, *]; done) | (simp [FS28_2_21, gotV]; done) | (simp [FS28_2_21, gotV]; omega)), fun h => absurd h (by decide)⟩ (Below.refl _ _)
      | 6, _ =>
        injection ho with ho
        subst ho
        clear hl
        simp only [fillA, List.take, List.drop, put_none, Act.put, List.setIfInBounds_toArray, List.set_cons_zero, List.set_cons_succ, Nat.reduceAdd]
        have f5 := hf 5 (by decide) (by kernel_rfl)
        generalize vals 5 = v5 at *
        subst f5
        have f4 := hf 4 (by decide) (by kernel_rfl)
        generalize vals 4 = v4 at *
        subst f4
        clear hf
        go_wp2_with (fail)
        exact RQ.mk rfl ⟨(by first | rfl | (simp [FS28_2_21]; done) | (simp [FS28_2_21, *]; done) | (simp [FS28_2_21, gotV]; done) | (simp [FS28_2_21, gotV]; omega)), fun h => absurd h (by decide)⟩ (Below.refl _ _)
      | 7, _ =>
        injection ho with ho
        subst ho
        clear hl
        simp only [fillA, List.take, List.drop, put_none, Act.put, List.setIfInBounds_toArray, List.set_cons_zero, List.set_cons_succ, Nat.reduceAdd]
        have f4 := hf 4 (by decide) (by kernel_rfl)
        generalize vals 4 = v4 at *
        subst f4
        have f6 := hf 6 (by decide) (by kernel_rfl)
        generalize vals 6 = v6 at *
        subst f6
        clear hf
        go_wp2_with (fail)
        exact RQ.mk rfl ⟨(by first | rfl | (simp [FS28_2_21]; done) | (simp [FS28_2_21, *]; done) | (simp [FS28_2_21, gotV]; done) | (simp [FS28_2_21, gotV]; omega)), fun h => absurd h (by decide)⟩ (Below.refl _ _)
      | 8, _ =>
        injection ho with ho
        subst ho
        clear hl
        simp only [fillA, List.take, List.drop, put_none, Act.put, List.setIfInBounds_toArray, List.set_cons_zero, List.set_cons_succ, Nat.reduceAdd]
        have f7 := hf 7 (by decide) (by kernel_rfl)
        generalize vals 7 = v7 at *
        subst f7
        have f4 := hf 4 (by decide) (by kernel_rfl)
        generalize vals 4 = v4 at *
        subst f4
        clear hf
        go_wp2_with (fail)
        exact RQ.mk rfl ⟨(by first | rfl | (simp [FS28_2_21]; done) | (simp [FS28_2_21, *]; done) | (simp [FS28_2_21, gotV]; done) | (simp [FS28_2_21, gotV]; omega)), fun h => absurd h (by decide)⟩ (Below.refl _ _)
      | 9, _ =>
        injection ho with ho
        subst ho
        clear hl
        simp only [fillA, List.take, List.drop, put_none, Act.put, List.setIfInBounds_toArray, List.set_cons_zero, List.set_cons_succ, Nat.reduceAdd]
        have f8 := hf 8 (by decide) (by kernel_rfl)
        generalize vals 8 = v8 at *
        subst f8
        clear hf
        go_wp2_with (fail)
        exact RQ.mk rfl ⟨(by first | rfl | (simp [FS28_2_21]; done) | (simp [FS28_2_21, *]; done) | (simp [FS28_2_21, gotV]; done) | (simp [FS28_2_21, gotV]; omega)), fun h => absurd h (by decide)⟩ (Below.refl _ _)
      | 10, _ =>
        injection ho with ho
        subst ho
        clear hl
        simp only [fillA, List.take, List.drop, put_none, Act.put, List.setIfInBounds_toArray, List.set_cons_zero, List.set_cons_succ, Nat.reduceAdd]
        have f8 := hf 8 (by decide) (by kernel_rfl)
        generalize vals 8 = v8 at *
        subst f8
        clear hf
        go_wp2_with (fail)
        exact RQ.mk rfl ⟨(by first | rfl | (simp [FS28_2_21]; done) | (simp [FS28_2_21, *]; done) | (simp [FS28_2_21, gotV]; done) | (simp [FS28_2_21, gotV]; omega)), fun h => absurd h (by decide)⟩ (Below.refl _ _)
      | 11, _ =>
        injection ho with ho
        subst ho
        clear hl
        simp only [fillA, List.take, List.drop, put_none, Act.put, List.setIfInBounds_toArray, List.set_cons_zero, List.set_cons_succ, Nat.reduceAdd]
        have f8 := hf 8 (by decide) (by kernel_rfl)
        generalize vals 8 = v8 at *
        subst f8
        clear hf
        go_wp2_with (fail)
        exact RQ.mk rfl ⟨(by first | rfl | (simp [FS28_2_21]; done) | (simp [FS28_2_21, *]; done) | (simp [FS28_2_21, gotV]; done) | (simp [FS28_2_21, gotV]; omega)), fun h => absurd h (by decide)⟩ (Below.refl _ _)
      | 12, _ =>
        injection ho with ho
        subst ho
        clear hl
        simp only [fillA, List.take, List.drop, put_none, Act.put, List.setIfInBounds_toArray, List.set_cons_zero, List.set_cons_succ, Nat.reduceAdd]
        have f10 := hf 10 (by decide) (by kernel_rfl)
        generalize vals 10 = v10 at *
        subst f10
        have f11 := hf 11 (by decide) (by kernel_rfl)
        generalize vals 11 = v11 at *
        subst f11
        have f8 := hf 8 (by decide) (by kernel_rfl)
        generalize vals 8 = v8 at *
        subst f8
        clear hf
        go_wp2_with (fail)
        exact RQ.mk rfl ⟨(by first | rfl | (simp [FS28_2_21]; done) | (simp [FS28_2_21, *]; done) | (simp [FS28_2_21, gotV]; done) | (simp [FS28_2_21, gotV]; omega)), fun h => absurd h (by decide)⟩ (Below.refl _ _)
      | 13, _ =>
        injection ho with ho
        subst ho
        clear hl
        simp only [fillA, List.take, List.drop, put_none, Act.put, List.setIfInBounds_toArray, List.set_cons_zero, List.set_cons_succ, Nat.reduceAdd]
        have f12 := hf 12 (by decide) (by kernel_rfl)
        generalize vals 12 = v12 at *
        subst f12
        have f8 := hf 8 (by decide) (by kernel_rfl)
        generalize vals 8 = v8 at *
        subst f8
        clear hf
        go_wp2_with (fail)
        exact RQ.mk rfl ⟨(by first | rfl | (simp [FS28_2_21]; done) | (simp [FS28_2_21, *]; done) | (simp [FS28_2_21, gotV]; done) | (simp [FS28_2_21, gotV]; omega)), fun h => absurd h (by decide)⟩ (Below.refl _ _)
      | 14, _ =>
        injection ho with ho
        subst ho
        clear hl
        simp only [fillA, List.take, List.drop, put_none, Act.put, List.setIfInBounds_toArray, List.set_cons_zero, List.set_cons_succ, Nat.reduceAdd]
        have f13 := hf 13 (by decide) (by kernel_rfl)
        generalize vals 13 = v13 at *
        subst f13
        have f8 := hf 8 (by decide) (by kernel_rfl)
        generalize vals 8 = v8 at *
        subst f8
        clear hf
        have hc1 := cellOf hb1
        have hf1 := frozOf hb1
        have hz1 := sizeOf hb1
        try simp at hz1
        go_wp2_with (fail)
        exact RQ.mk rfl ⟨(by first | rfl | (simp [FS28_2_21]; done) | (simp [FS28_2_21, *]; done) | (simp [FS28_2_21, gotV]; done) | (simp [FS28_2_21, gotV]; omega)), fun h => absurd h (by decide)⟩ (Below.refl _ _)
      | 15, _ =>
        injection ho with ho
        subst ho
        clear hl
        simp only [fillA, List.take, List.drop, put_none, Act.put, List.setIfInBounds_toArray, List.set_cons_zero, List.set_cons_succ, Nat.reduceAdd]
        have f14 := hf 14 (by decide) (by kernel_rfl)
        generalize vals 14 = v14 at *
        subst f14
        have f8 := hf 8 (by decide) (by kernel_rfl)
        generalize vals 8 = v8 at *
        subst f8
        clear hf
        go_wp2_with (fail)
        exact RQ.mk rfl ⟨(by first | rfl | (simp [FS28_2_21]; done) | (simp [FS28_2_21, *]; done) | (simp [FS28_2_21, gotV]; done) | (simp [FS28_2_21, gotV]; omega)), fun h => absurd h (by decide)⟩ (Below.refl _ _)
      | 16, _ =>
        injection ho with ho
        subst ho
        clear hl
        simp only [fillA, List.take, List.drop, put_none, Act.put, List.setIfInBounds_toArray, List.set_cons_zero, List.set_cons_succ, Nat.reduceAdd]
        have f8 := hf 8 (by decide) (by kernel_rfl)
        generalize vals 8 = v8 at *
        subst f8
        clear hf
        go_wp2_with (fail)
        exact RQ.mk rfl ⟨(by first | rfl | (simp [FS28_2_21]; done) | (simp [FS28_2_21, *]; done) | (simp [FS28_2_21, gotV]; done) | (simp [FS28_2_21, gotV]; omega)), fun h => absurd h (by decide)⟩ (Below.refl _ _)
      | 17, _ =>
        injection ho with ho
        subst ho
        clear hl
        simp only [fillA, List.take, List.drop, put_none, Act.put, List.setIfInBounds_toArray, List.set_cons_zero, List.set_cons_succ, Nat.reduceAdd]
        have f8 := hf 8 (by decide) (by kernel_rfl)
        generalize vals 8 = v8 at *
        subst f8
        clear hf
        go_wp2_with (fail)
        exact RQ.mk rfl ⟨(by first | rfl | (simp [FS28_2_21]; done) | (simp [FS28_2_21, *]; done) | (simp [FS28_2_21, gotV]; done) | (simp [FS28_2_21, gotV]; omega)), fun h => absurd h (by decide)⟩ (Below.refl _ _)
      | 18, _ =>
        injection ho with ho
        subst ho
        clear hl
        simp only [fillA, List.take, List.drop, put_none, Act.put, List.setIfInBounds_toArray, List.set_cons_zero, List.set_cons_succ, Nat.reduceAdd]
        have f16 := hf 16 (by decide) (by kernel_rfl)
        generalize vals 16 = v16 at *
        subst f16
        have f17 := hf 17 (by decide) (by kernel_rfl)
        generalize vals 17 = v17 at *
        subst f17
        have f8 := hf 8 (by decide) (by kernel_rfl)
        generalize vals 8 = v8 at *
        subst f8
        clear hf
        go_wp2_with (fail)
        exact RQ.mk rfl ⟨(by first | rfl | (simp [FS28_2_21]; done) | (simp [FS28_2_21, *]; done) | (simp [FS28_2_21, gotV]; done) | (simp [FS28_2_21, gotV]; omega)), fun h => absurd h (by decide)⟩ (Below.refl _ _)
      | 19, _ =>
        injection ho with ho
        subst ho
        clear hl
        simp only [fillA, List.take, List.drop, put_none, Act.put, List.setIfInBounds_toArray, List.set_cons_zero, List.set_cons_succ, Nat.reduceAdd]
        have f18 := hf 18 (by decide) (by kernel_rfl)
        generalize vals 18 = v18 at *
        subst f18
        have f8 := hf 8 (by decide) (by kernel_rfl)
        generalize vals 8 = v8 at *
        subst f8
        clear hf
        go_wp2_with (fail)
        exact RQ.mk rfl ⟨(by first | rfl | (simp [FS28_2_21]; done) | (simp [FS28_2_21, *]; done) | (simp [FS28_2_21, gotV]; done) | (simp [FS28_2_21, gotV]; omega)), fun h => absurd h (by decide)⟩ (Below.refl _ _)
      | 20, _ =>
        injection ho with ho
        subst ho
        clear hl
        simp only [fillA, List.take, List.drop, put_none, Act.put, List.setIfInBounds_toArray, List.set_cons_zero, List.set_cons_succ, Nat.reduceAdd]
        have f19 := hf 19 (by decide) (by kernel_rfl)
        generalize vals 19 = v19 at *
        subst f19
        have f8 := hf 8 (by decide) (by kernel_rfl)
        generalize vals 8 = v8 at *
        subst f8
        clear hf
        have hc1 := cellOf hb1
        have hf1 := frozOf hb1
        have hz1 := sizeOf hb1
        try simp at hz1
        go_wp2_with (fail)
        exact RQ.mk rfl ⟨(by first | rfl | (simp [FS28_2_21]; done) | (simp [FS28_2_21, *]; done) | (simp [FS28_2_21, gotV]; done) | (simp [FS28_2_21, gotV]; omega)), fun h => absurd h (by decide)⟩ (Below.refl _ _)
      | 21, _ =>
        injection ho with ho
        subst ho
        clear hl
        simp only [fillA, List.take, List.drop, put_none, Act.put, List.setIfInBounds_toArray, List.set_cons_zero, List.set_cons_succ, Nat.reduceAdd]
        have f20 := hf 20 (by decide) (by kernel_rfl)
        generalize vals 20 = v20 at *
        subst f20
        have f8 := hf 8 (by decide) (by kernel_rfl)
        generalize vals 8 = v8 at *
        subst f8
        clear hf
        go_wp2_with (fail)
        exact RQ.mk rfl ⟨(by first | rfl | (simp [FS28_2_21]; done) | (simp [FS28_2_21, *]; done) | (simp [FS28_2_21, gotV]; done) | (simp [FS28_2_21, gotV]; omega)), fun h => absurd h (by decide)⟩ (Below.refl _ _)
      | 22, _ =>
        injection ho with ho
        subst ho
        clear hl
        simp only [fillA, List.take, List.drop, put_none, Act.put, List.setIfInBounds_toArray, List.set_cons_zero, List.set_cons_succ, Nat.reduceAdd]
        have f9 := hf 9 (by decide) (by kernel_rfl)
        generalize vals 9 = v9 at *
        subst f9
        have f15 := hf 15 (by decide) (by kernel_rfl)
        generalize vals 15 = v15 at *
        subst f15
        have f21 := hf 21 (by decide) (by kernel_rfl)
        generalize vals 21 = v21 at *
        subst f21
        have f8 := hf 8 (by decide) (by kernel_rfl)
        generalize vals 8 = v8 at *
        subst f8
        clear hf
        have hc1 := cellOf hb1
        have hf1 := frozOf hb1
        have hz1 := sizeOf hb1
        try simp at hz1
        go_wp2_with (first | (go_at_call 53; refine (c_impl_inside _ _ _ _ ).mono ?_; rintro e w' ⟨rfl, hb⟩; have hc := cellOf hb; have hf := frozOf hb; have hz := sizeOf hb; try simp at hz))
        exact RQ.mk rfl ⟨(by first | rfl | (simp [FS28_2_21]; done) | (simp [FS28_2_21, *]; done) | (simp [FS28_2_21, gotV]; done) | (simp [FS28_2_21, gotV]; omega)), fun h => absurd h (by decide)⟩ (by (repeat' (first | exact Below.refl _ _ | assumption | refine Below.setCell ?_ ?_ _ | refine Below.drew ?_ | refine Below.alloc ?_ ?_ _ | refine Below.trans ?_ (Below.mono (by assumption) ?_) | (simp; done) | (simp; omega) | omega)))
      | 23, _ =>
        injection ho with ho
        subst ho
        clear hl
        simp only [fillA, List.take, List.drop, put_none, Act.put, List.setIfInBounds_toArray, List.set_cons_zero, List.set_cons_succ, Nat.reduceAdd]
        have f22 := hf 22 (by decide) (by kernel_rfl)
        generalize vals 22 = v22 at *
        subst f22
        have f8 := hf 8 (by decide) (by kernel_rfl)
        generalize vals 8 = v8 at *
        subst f8
        clear hf
        go_wp2_with (fail)
        exact RQ.mk rfl ⟨(by first | rfl | (simp [FS28_2_21]; done) | (simp [FS28_2_21, *]; done) | (simp [FS28_2_21, gotV]; done) | (simp [FS28_2_21, gotV]; omega)), fun h => absurd h (by decide)⟩ (Below.refl _ _)
      | 24, _ =>
        injection ho with ho
        subst ho
        clear hl
        simp only [fillA, List.take, List.drop, put_none, Act.put, List.setIfInBounds_toArray, List.set_cons_zero, List.set_cons_succ, Nat.reduceAdd]
        have f8 := hf 8 (by decide) (by kernel_rfl)
        generalize vals 8 = v8 at *
        subst f8
        have f23 := hf 23 (by decide) (by kernel_rfl)
        generalize vals 23 = v23 at *
        subst f23
        clear hf
        go_wp2_with (fail)
        exact RQ.mk rfl ⟨(by first | rfl | (simp [FS28_2_21]; done) | (simp [FS28_2_21, *]; done) | (simp [FS28_2_21, gotV]; done) | (simp [FS28_2_21, gotV]; omega)), fun h => absurd h (by decide)⟩ (Below.refl _ _)
      | m + 25, h => exact absurd h (by omega)
    · intro vals w1 hb1 hf hd
      simp only [fillA, List.take, List.drop, put_none, Act.put, List.setIfInBounds_toArray, List.set_cons_zero, List.set_cons_succ, Nat.reduceAdd]
      clear hd
      have f0 := hf 0 (by decide)
      generalize vals 0 = v0 at *
      subst f0
      have f1 := hf 1 (by decide)
      generalize vals 1 = v1 at *
      subst f1
      have f2 := hf 2 (by decide)
      generalize vals 2 = v2 at *
      subst f2
      have f3 := hf 3 (by decide)
      generalize vals 3 = v3 at *
      subst f3
      have f4 := hf 4 (by decide)
      generalize vals 4 = v4 at *
      subst f4
      have f5 := hf 5 (by decide)
      generalize vals 5 = v5 at *
      subst f5
      have f6 := hf 6 (by decide)
      generalize vals 6 = v6 at *
      subst f6
      have f7 := hf 7 (by decide)
      generalize vals 7 = v7 at *
      subst f7
      have f8 := hf 8 (by decide)
      generalize vals 8 = v8 at *
      subst f8
      have f9 := hf 9 (by decide)
      generalize vals 9 = v9 at *
      subst f9
      have f10 := hf 10 (by decide)
      generalize vals 10 = v10 at *
      subst f10
      have f11 := hf 11 (by decide)
      generalize vals 11 = v11 at *
      subst f11
      have f12 := hf 12 (by decide)
      generalize vals 12 = v12 at *
      subst f12
      have f13 := hf 13 (by decide)
      generalize vals 13 = v13 at *
      subst f13
      have f14 := hf 14 (by decide)
      generalize vals 14 = v14 at *
      subst f14
      have f15 := hf 15 (by decide)
      generalize vals 15 = v15 at *
      subst f15
      have f16 := hf 16 (by decide)
      generalize vals 16 = v16 at *
      subst f16
      have f17 := hf 17 (by decide)
      generalize vals 17 = v17 at *
      subst f17
      have f18 := hf 18 (by decide)
      generalize vals 18 = v18 at *
      subst f18
      have f19 := hf 19 (by decide)
      generalize vals 19 = v19 at *
      subst f19
      have f20 := hf 20 (by decide)
      generalize vals 20 = v20 at *
      subst f20
      have f21 := hf 21 (by decide)
      generalize vals 21 = v21 at *
      subst f21
      have f22 := hf 22 (by decide)
      generalize vals 22 = v22 at *
      subst f22
      have f23 := hf 23 (by decide)
      generalize vals 23 = v23 at *
      subst f23
      have f24 := hf 24 (by decide)
      generalize vals 24 = v24 at *
      subst f24
      clear hf
      have hc1 := cellOf hb1
      have hf1 := frozOf hb1
      have hz1 := sizeOf hb1
      try simp at hz1
      go_wp2_with (at_builtin; refine wpList_pushes (xs := ([] : List (Int × Int × Int × Int × Int))) rfl (.tmp 40) (.tmp 41) 25 rfl 48 i0 _ 40 Try.underlying25 hI0 hI1 hI2 hI3 rfl (by decide) (fun _ => rfl) one_Ber 0 rfl rfl (FreshA.new (B := w.heap.size) (by first | omega | (simp; omega) | (simp at *; omega))) xs _ rfl bx ox _ rfl ?_ ?_ ?_ ?_ ?_; (exact fun p hp j u hu => (Below.cell (p := ⟨bx, _, none⟩) (show Below w.heap.size w _ by (repeat' (first | exact Below.refl _ _ | assumption | refine Below.setCell ?_ ?_ _ | refine Below.drew ?_ | refine Below.alloc ?_ ?_ _ | refine Below.trans ?_ (Below.mono (by assumption) ?_) | (simp; done) | (simp; omega) | omega))) hbx).trans (HX.out p hp j u hu)); (unfold maxLen; omega); omega; (simp; omega); intro A3 cp3 w3 hF3 hg3 hat3; simp only [List.nil_append, Nat.zero_add] at hF3; have hb3 := below_of_grown (B := w.heap.size) hg3 (fun a ha => by cases ha; first | omega | (simp; omega) | (simp at *; omega)) (by simp; omega); have hs3 := hg3.size; (try simp at hs3); have hBB : Below w.heap.size w w3 := Below.trans (show Below w.heap.size w _ by (repeat' (first | exact Below.refl _ _ | assumption | refine Below.setCell ?_ ?_ _ | refine Below.drew ?_ | refine Below.alloc ?_ ?_ _ | refine Below.trans ?_ (Below.mono (by assumption) ?_) | (simp; done) | (simp; omega) | omega))) hb3; obtain ⟨g3, rfl, hB3, hO3⟩ := FreshA.row hF3 (by omega); have hle3 : xs.length ≤ cp3 := (by obtain ⟨_, _, _, h, _⟩ := hO3; exact h); have hfz3 : ∀ o, w3.frozen? ⟨g3, o, none⟩ = false := fun o => hO3.frozen o; have hlt3 := hO3.lt; obtain ⟨u4, hu4⟩ := hO3.cell (k * 5 + 4) (by omega); have HO3 := hid hO3; clear hO3 hF3)
      go_ret2
      simp only [HV.out]
      refine ⟨some ⟨g3, 0, none⟩, cp3, by simp, .inr ⟨g3, rfl, hB3, ?_⟩, by (repeat' (first | exact Below.refl _ _ | assumption | refine Below.setCell ?_ ?_ _ | refine Below.drew ?_ | refine Below.alloc ?_ ?_ _ | refine Below.trans ?_ (Below.mono (by assumption) ?_) | (simp; done) | (simp; omega) | omega))⟩
      rw [HXK.out]
      exact OwnS.put1 (fun _ => rfl) HO3.out hlt (by decide) rfl

end Go.Proofs.Ytfipmalomhflgaa
namespace Go.Proofs.Ytfipmalomhflgaa
set_option linter.unusedSimpArgs false
set_option linter.unusedVariables false
open Go.RowKit

set_option maxRecDepth 100000 in
set_option maxHeartbeats 4000000 in
theorem c_spec_LeaveEarly (q : Int) (A : Option Addr) (xs : List (Int × Int × Int × Int × Int)) (cap : Nat) (z h : Int) (w : World) (hx : Rds cBer 5 w A xs) (hn : xs.length ≤ 9223372036854775807) :
    Calls Try.prog 27 #[.int .i64 q, .slice A xs.length cap, .int .i64 z, .int .i64 h] w fun e w' => ∃ A' cap', e = .returned (.tuple #[.slice A' (leaveV q xs z h).1.length cap', .bool (leaveV q xs z h).2]) ∧ FreshA cBer 5 48 w.heap.size w' A' cap' (leaveV q xs z h).1 ∧ Below w.heap.size w w' := by
  obtain ⟨i0, hI0, hI1, hI2, hI3⟩ := info_parts info_Ber
  by_cases hs0 : berV q xs = true
  rotate_left
  · have hn0 : berV q xs = false := Bool.eq_false_iff.2 hs0
    have HV := hid (leaveV_no (z := z) (h := h) hn0)
    clear hs0
    go_enter Try.func27, Try.ntmps27
    go_wp2_with (first | (go_at_call 52; refine (c_spec_l16Good _ _ _ _ _ (by first | assumption | exact Rds.below hx (by (repeat' (first | exact Below.refl _ _ | assumption | refine Below.setCell ?_ ?_ _ | refine Below.drew ?_ | refine Below.alloc ?_ ?_ _ | refine Below.trans ?_ (Below.mono (by assumption) ?_) | (simp; done) | (simp; omega) | omega)))) (by omega)).mono ?_; rintro e w' ⟨rfl, hb⟩; have hc := cellOf hb; have hf := frozOf hb; have hz := sizeOf hb; try simp at hz))
    go_ret2
    simp only [HV.out]
    exact ⟨_, _, rfl, FreshA.new (by (try simp at *); omega), by (repeat' (first | exact Below.refl _ _ | assumption | refine Below.setCell ?_ ?_ _ | refine Below.drew ?_ | refine Below.alloc ?_ ?_ _ | refine Below.trans ?_ (Below.mono (by assumption) ?_) | (simp; done) | (simp; omega) | omega))⟩
  have hlen := berV_len hs0
  have hqb := inB_bd (berV_quay hs0)
  go_enter Try.func27, Try.ntmps27
  go_wp2_with (first | (go_at_call 52; refine (c_spec_l16Good _ _ _ _ _ (by first | assumption | exact Rds.below hx (by (repeat' (first | exact Below.refl _ _ | assumption | refine Below.setCell ?_ ?_ _ | refine Below.drew ?_ | refine Below.alloc ?_ ?_ _ | refine Below.trans ?_ (Below.mono (by assumption) ?_) | (simp; done) | (simp; omega) | omega)))) (by omega)).mono ?_; rintro e w' ⟨rfl, hb⟩; have hc := cellOf hb; have hf := frozOf hb; have hz := sizeOf hb; try simp at hz))
  go_loopw [10] (fun i wr => ∃ k : Nat, k ≤ xs.length ∧ i = .int .i64 k ∧ (xs.take k).any (leaveP z h) = false ∧ Below w.heap.size w wr) (fun i _ => xs.length - (intOf i).toNat)
  case atStart => exact ⟨0, Nat.zero_le _, rfl, rfl, by (repeat' (first | exact Below.refl _ _ | assumption | refine Below.setCell ?_ ?_ _ | refine Below.drew ?_ | refine Below.alloc ?_ ?_ _ | refine Below.trans ?_ (Below.mono (by assumption) ?_) | (simp; done) | (simp; omega) | omega))⟩
  case round =>
    obtain ⟨k, hk, rfl, han, hbr⟩ := hrel
    have hc := cellOf hbr
    have hf := frozOf hbr
    have hz := sizeOf hbr
    by_cases hlt : k < xs.length
    rotate_left
    · obtain rfl : k = xs.length := by omega
      rw [List.take_length] at han
      have HV := hid (leaveV_none (q := q) (leave_none hs0 han))
      clear han
      go_wp2_with (fail)
      go_ret2
      simp only [HV.out]
      exact ⟨_, _, rfl, FreshA.new (by (try simp at *); omega), by (repeat' (first | exact Below.refl _ _ | assumption | refine Below.setCell ?_ ?_ _ | refine Below.drew ?_ | refine Below.alloc ?_ ?_ _ | refine Below.trans ?_ (Below.mono (by assumption) ?_) | (simp; done) | (simp; omega) | omega))⟩
    obtain ⟨bx, ox, rfl, hbx, hcx⟩ := Rds.all hx (by omega)
    have hx0 := hcx k hlt 0 _ rfl
    have hx1 := hcx k hlt 1 _ rfl
    have hx2 := hcx k hlt 2 _ rfl
    have hx3 := hcx k hlt 3 _ rfl
    have hx4 := hcx k hlt 4 _ rfl
    simp only [Nat.add_zero] at hx0
    have HX := hid hcx
    have hxb := berOk_bd (berV_at hs0 k hlt)
    have HS := hid (any_snoc (leaveP z h) xs k hlt)
    have HA := hid han
    have HH := hid (fun e => leaveV_some hs0 (leave_hit hs0 hlt (z := z) (h := h) e))
    clear hcx han hx
    obtain ⟨x, hxk⟩ : ∃ x, x = xs[k] := ⟨_, rfl⟩
    simp only [← hxk] at hx0 hx1 hx2 hx3 hx4 hxb HS HH
    have HXK := hid hxk
    clear hxk
    by_cases hid1 : x.1 = z
    rotate_left
    · have HN : Hid (leaveP z h x = false) := by show _ = _; simp [leaveP, hid1]
      clear HH
      go_wp2_with (first | (go_at_call 57; refine (c_spec_l1In _ _ _ _ ).mono ?_; rintro e w' ⟨rfl, hb⟩; have hc := cellOf hb; have hf := frozOf hb; have hz := sizeOf hb; try simp at hz))
      go_roundw
      case rel => exact ⟨k + 1, by omega, by go_num, by rw [HS.out, HA.out, HN.out]; rfl, by (repeat' (first | exact Below.refl _ _ | assumption | refine Below.setCell ?_ ?_ _ | refine Below.drew ?_ | refine Below.alloc ?_ ?_ _ | refine Below.trans ?_ (Below.mono (by assumption) ?_) | (simp; done) | (simp; omega) | omega))⟩
      case measure => simp [intOf]; omega
    by_cases hi : inB h (x.2.2.2.1 + 1) (x.2.2.2.2 - 1) = true
    rotate_left
    · have hin : inB h (x.2.2.2.1 + 1) (x.2.2.2.2 - 1) = false := Bool.eq_false_iff.2 hi
      have HN : Hid (leaveP z h x = false) := by show _ = _; simp [leaveP, hin]
      clear hi HH
      go_wp2_with (first | (go_at_call 57; refine (c_spec_l1In _ _ _ _ ).mono ?_; rintro e w' ⟨rfl, hb⟩; have hc := cellOf hb; have hf := frozOf hb; have hz := sizeOf hb; try simp at hz))
      go_roundw
      case rel => exact ⟨k + 1, by omega, by go_num, by rw [HS.out, HA.out, HN.out]; rfl, by (repeat' (first | exact Below.refl _ _ | assumption | refine Below.setCell ?_ ?_ _ | refine Below.drew ?_ | refine Below.alloc ?_ ?_ _ | refine Below.trans ?_ (Below.mono (by assumption) ?_) | (simp; done) | (simp; omega) | omega))⟩
      case measure => simp [intOf]; omega
    have HV := hid (HH.out (by simp only [leaveP, hi, hid1]; rfl))
    clear HH
    go_wp2_with (first | (first | (go_at_call 57; refine (c_spec_l1In _ _ _ _ ).mono ?_; rintro e w' ⟨rfl, hb⟩; have hc := cellOf hb; have hf := frozOf hb; have hz := sizeOf hb; try simp at hz)) | (at_builtin; refine wpList_pushes (xs := ([] : List (Int × Int × Int × Int × Int))) rfl (.tmp 42) (.tmp 43) 25 rfl 48 i0 _ 40 Try.underlying25 hI0 hI1 hI2 hI3 rfl (by decide) (fun _ => rfl) one_Ber 0 rfl rfl (FreshA.new (B := wr.heap.size + 1) (by first | omega | (simp; omega) | (simp at *; omega))) xs _ rfl bx ox _ rfl ?_ ?_ ?_ ?_ ?_; (exact fun p hp j u hu => (Below.cell (p := ⟨bx, _, none⟩) (show Below w.heap.size w _ by (repeat' (first | exact Below.refl _ _ | assumption | refine Below.setCell ?_ ?_ _ | refine Below.drew ?_ | refine Below.alloc ?_ ?_ _ | refine Below.trans ?_ (Below.mono (by assumption) ?_) | (simp; done) | (simp; omega) | omega))) hbx).trans (HX.out p hp j u hu)); (unfold maxLen; omega); omega; (simp; omega); intro A3 cp3 w3 hF3 hg3 hat3; simp only [List.nil_append, Nat.zero_add] at hF3; have hb3 := below_of_grown (B := w.heap.size) hg3 (fun a ha => by cases ha; first | omega | (simp; omega) | (simp at *; omega)) (by simp; omega); have hs3 := hg3.size; (try simp at hs3); have hBB : Below w.heap.size w w3 := Below.trans (show Below w.heap.size w _ by (repeat' (first | exact Below.refl _ _ | assumption | refine Below.setCell ?_ ?_ _ | refine Below.drew ?_ | refine Below.alloc ?_ ?_ _ | refine Below.trans ?_ (Below.mono (by assumption) ?_) | (simp; done) | (simp; omega) | omega))) hb3; obtain ⟨g3, rfl, hB3, hO3⟩ := FreshA.row hF3 (by omega); have hle3 : xs.length ≤ cp3 := (by obtain ⟨_, _, _, h, _⟩ := hO3; exact h); have hfz3 : ∀ o, w3.frozen? ⟨g3, o, none⟩ = false := fun o => hO3.frozen o; have hlt3 := hO3.lt; have hc3 : ∀ o, w3.cell? ⟨wr.heap.size, o, none⟩ = _ := fun o => World.cell?_of_block (a := ⟨wr.heap.size, o, none⟩) (hg3.block _ (by simp; omega) (by simp [blkO]; omega)); have hf3 : ∀ o, w3.frozen? ⟨wr.heap.size, o, none⟩ = _ := fun o => World.frozen?_of_block (a := ⟨wr.heap.size, o, none⟩) (hg3.block _ (by simp; omega) (by simp [blkO]; omega)); obtain ⟨u0, hu0⟩ := hO3.cell (k * 5) (by omega); obtain ⟨u1, hu1⟩ := hO3.cell (k * 5 + 1) (by omega); obtain ⟨u2, hu2⟩ := hO3.cell (k * 5 + 2) (by omega); obtain ⟨u3, hu3⟩ := hO3.cell (k * 5 + 3) (by omega); obtain ⟨u4, hu4⟩ := hO3.cell (k * 5 + 4) (by omega); have HO3 := hid hO3; clear hO3 hF3))
    go_ret2
    simp only [HV.out]
    refine ⟨some ⟨g3, 0, none⟩, cp3, by simp, .inr ⟨g3, rfl, by omega, ?_⟩, by (repeat' (first | refine Below.setCell ?_ ?_ _ | exact hBB | omega | (simp; omega)))⟩
    have HP := OwnS.put (cf := cBer) (sz := 5) (y := endAt x h) (fun _ => rfl) (OwnS.set_far HO3.out (p := ⟨wr.heap.size, 4, none⟩) (by show g3 ≠ wr.heap.size; omega) (.int .i64 h)) hlt
    rw [show cBer (endAt x h) = [.int .i64 z, .int .i64 x.2.1, .int .i64 x.2.2.1, .int .i64 x.2.2.2.1, .int .i64 h] by simp [cBer, endAt, hid1]] at HP
    simp only [stores, Nat.add_assoc, Nat.reduceAdd] at HP
    exact HP

end Go.Proofs.Ytfipmalomhflgaa
