import Derived.Test.YtgjbdcalmodhpaaE0
import Derived.Test.YtgjbdcalmodhpaaP1c
import Derived.Test.YtgjbdcalmodhpaaP2s
import Derived.Test.YtgjbdcalmodhpaaRegT
namespace Go.Proofs.Ytgjbdcalmodhpaa
set_option linter.unusedSimpArgs false
set_option linter.unusedVariables false
open Go.RowKit

def FS27_10 (a b : Int × Bool × Int × Int) (g : Int) (bx ox k q n0 cap : Nat) (w W0 : World) (iq : Nat) (v : Value) (w1 : World) : Prop := match iq with
  | 0 => v = .slice (some ⟨bx, ox, none⟩) n0 cap
  | 1 => v = .int .i64 (k)
  | 2 => v = .pointer (some ⟨bx, ox + k * 4, none⟩)
  | 3 => v = .agg #[.int .i64 (a.1), .bool (a.2.1), .int .i64 (a.2.2.1), .int .i64 (a.2.2.2)]
  | 4 => v = .slice (some ⟨bx, ox, none⟩) n0 cap
  | 5 => v = .int .i64 (q)
  | 6 => v = .pointer (some ⟨bx, ox + q * 4, none⟩)
  | 7 => v = .agg #[.int .i64 (b.1), .bool (b.2.1), .int .i64 (b.2.2.1), .int .i64 (b.2.2.2)]
  | 8 => v = .int .i64 (g)
  | 9 => v = .bool (clashB (a.1) (a.2.1) (a.2.2.1) (a.2.2.2) (b.1) (b.2.1) (b.2.2.1) (b.2.2.2) g)
  | _ => True

def FS27_11 (a b : Int × Bool × Int × Int) (g : Int) (bx ox k q n0 cap : Nat) (A2 : Option Addr) (cp2 n1 : Nat) (w W0 : World) (iq : Nat) (v : Value) (w1 : World) : Prop := match iq with
  | 0 => v = .slice A2 n1 cp2
  | 1 => v = .slice (some ⟨bx, ox, none⟩) n0 cap
  | 2 => v = .int .i64 (k)
  | 3 => v = .pointer (some ⟨bx, ox + k * 4, none⟩)
  | 4 => v = .pointer (some ⟨bx, ox + k * 4, none⟩)
  | 5 => v = .int .i64 (a.1)
  | 6 => v = .slice (some ⟨bx, ox, none⟩) n0 cap
  | 7 => v = .int .i64 (q)
  | 8 => v = .pointer (some ⟨bx, ox + q * 4, none⟩)
  | 9 => v = .pointer (some ⟨bx, ox + q * 4, none⟩)
  | 10 => v = .int .i64 (b.1)
  | 11 => v = .agg #[.int .i64 (a.1), .int .i64 (b.1)]
  | _ => True

set_option maxRecDepth 100000 in
set_option maxHeartbeats 4000000 in
theorem c_spec_ClashPairs (A : Option Addr) (xs : List (Int × Bool × Int × Int)) (cap : Nat) (g : Int) (w : World) (hx : Rds cPas 4 w A xs) (hn : xs.length ≤ 9223372036854775807) :
    Calls Try.prog 27 #[.slice A xs.length cap, .int .i64 g] w fun e w' => ∃ A' cap', e = .returned (.tuple #[.slice A' (clashV xs g).1.length cap', .bool (clashV xs g).2]) ∧ FreshA cPr 2 65 w.heap.size w' A' cap' (clashV xs g).1 ∧ Below w.heap.size w w' := by
  obtain ⟨i0, hI0, hI1, hI2, hI3⟩ := info_parts info_Pr
  by_cases hs0 : vB pOk pLt 6 xs = true
  rotate_left
  · have hn0 : vB pOk pLt 6 xs = false := by simpa using hs0
    have hV : clashV xs g = ([], false) := by simp [clashV, hn0]
    simp only [hV]
    clear hs0 hV
    go_enter Try.func27, Try.ntmps27
    go_wp2_with (first | (go_at_call 58; refine (c_spec_l14Good _ _ _ _ (by first | assumption | exact Rds.below hx (by (repeat' (first | exact Below.refl _ _ | assumption | refine Below.setCell ?_ ?_ _ | refine Below.drew ?_ | refine Below.alloc ?_ ?_ _ | refine Below.trans ?_ (Below.mono (by assumption) ?_) | (simp; done) | (simp; omega) | omega)))) (by omega)).mono ?_; rintro e w' ⟨rfl, hb⟩; have hc := cellOf hb; have hf := frozOf hb; have hz := sizeOf hb; try simp at hz) | (go_at_call 53; refine (c_spec_l14Gap _ _ ).mono ?_; rintro e w' ⟨rfl, hb⟩; have hc := cellOf hb; have hf := frozOf hb; have hz := sizeOf hb; try simp at hz))
    all_goals go_ret2
    all_goals exact ⟨_, _, rfl, FreshA.emp (by (repeat' (first | exact Below.refl _ _ | assumption | refine Below.setCell ?_ ?_ _ | refine Below.drew ?_ | refine Below.alloc ?_ ?_ _ | refine Below.trans ?_ (Below.mono (by assumption) ?_) | (simp; done) | (simp; omega) | omega))), by (repeat' (first | exact Below.refl _ _ | assumption | refine Below.setCell ?_ ?_ _ | refine Below.drew ?_ | refine Below.alloc ?_ ?_ _ | refine Below.trans ?_ (Below.mono (by assumption) ?_) | (simp; done) | (simp; omega) | omega))⟩
  by_cases hs1 : gapB g = true
  rotate_left
  · have hn1 : gapB g = false := by simpa using hs1
    have hV : clashV xs g = ([], false) := by simp [clashV, hn1]
    simp only [hV]
    clear hs1 hV
    go_enter Try.func27, Try.ntmps27
    go_wp2_with (first | (go_at_call 58; refine (c_spec_l14Good _ _ _ _ (by first | assumption | exact Rds.below hx (by (repeat' (first | exact Below.refl _ _ | assumption | refine Below.setCell ?_ ?_ _ | refine Below.drew ?_ | refine Below.alloc ?_ ?_ _ | refine Below.trans ?_ (Below.mono (by assumption) ?_) | (simp; done) | (simp; omega) | omega)))) (by omega)).mono ?_; rintro e w' ⟨rfl, hb⟩; have hc := cellOf hb; have hf := frozOf hb; have hz := sizeOf hb; try simp at hz) | (go_at_call 53; refine (c_spec_l14Gap _ _ ).mono ?_; rintro e w' ⟨rfl, hb⟩; have hc := cellOf hb; have hf := frozOf hb; have hz := sizeOf hb; try simp at hz))
    all_goals go_ret2
    all_goals exact ⟨_, _, rfl, FreshA.emp (by (repeat' (first | exact Below.refl _ _ | assumption | refine Below.setCell ?_ ?_ _ | refine Below.drew ?_ | refine Below.alloc ?_ ?_ _ | refine Below.trans ?_ (Below.mono (by assumption) ?_) | (simp; done) | (simp; omega) | omega))), by (repeat' (first | exact Below.refl _ _ | assumption | refine Below.setCell ?_ ?_ _ | refine Below.drew ?_ | refine Below.alloc ?_ ?_ _ | refine Below.trans ?_ (Below.mono (by assumption) ?_) | (simp; done) | (simp; omega) | omega))⟩
  have hlen := vB_len hs0
  have hok := vB_bdP hs0
  have hgb := gapB_bd hs1
  go_enter Try.func27, Try.ntmps27
  go_wp2_with (first | (go_at_call 58; refine (c_spec_l14Good _ _ _ _ (by first | assumption | exact Rds.below hx (by (repeat' (first | exact Below.refl _ _ | assumption | refine Below.setCell ?_ ?_ _ | refine Below.drew ?_ | refine Below.alloc ?_ ?_ _ | refine Below.trans ?_ (Below.mono (by assumption) ?_) | (simp; done) | (simp; omega) | omega)))) (by omega)).mono ?_; rintro e w' ⟨rfl, hb⟩; have hc := cellOf hb; have hf := frozOf hb; have hz := sizeOf hb; try simp at hz) | (go_at_call 53; refine (c_spec_l14Gap _ _ ).mono ?_; rintro e w' ⟨rfl, hb⟩; have hc := cellOf hb; have hf := frozOf hb; have hz := sizeOf hb; try simp at hz))
  go_loopw [6, 7] (fun v i wr => ∃ (k : Nat) (A' : Option Addr) (cp : Nat) (out : List (Int × Int)), k ≤ xs.length ∧ i = .int .i64 k ∧ v = .slice A' out.length cp ∧ FreshA cPr 2 65 w.heap.size wr A' cp out ∧ out = pairsTo xs g k ∧ out.length ≤ 6 * k ∧ Below w.heap.size w wr) (fun _ i _ => xs.length - (intOf i).toNat)
  case atStart =>
    exact ⟨0, _, _, [], Nat.zero_le _, rfl, rfl, FreshA.emp (by (repeat' (first | exact Below.refl _ _ | assumption | refine Below.setCell ?_ ?_ _ | refine Below.drew ?_ | refine Below.alloc ?_ ?_ _ | refine Below.trans ?_ (Below.mono (by assumption) ?_) | (simp; done) | (simp; omega) | omega))), rfl, Nat.zero_le _, by (repeat' (first | exact Below.refl _ _ | assumption | refine Below.setCell ?_ ?_ _ | refine Below.drew ?_ | refine Below.alloc ?_ ?_ _ | refine Below.trans ?_ (Below.mono (by assumption) ?_) | (simp; done) | (simp; omega) | omega))⟩
  case round =>
    obtain ⟨k, A', cp, out, hk, rfl, rfl, hF, hout, hol, hbr⟩ := hrel
    have hc := cellOf hbr
    have hf := frozOf hbr
    have hz := sizeOf hbr
    by_cases hlt : k < xs.length
    rotate_left
    · obtain rfl : k = xs.length := by omega
      have HV : Hid (clashV xs g = (out, true)) := by
        show _ = _
        simp [clashV, hs0, hs1, hout, pairsV]
      clear hout
      go_wp2_with (fail)
      go_ret2
      simp only [HV.out]
      exact ⟨A', cp, rfl, hF, by (repeat' (first | exact Below.refl _ _ | assumption | refine Below.setCell ?_ ?_ _ | refine Below.drew ?_ | refine Below.alloc ?_ ?_ _ | refine Below.trans ?_ (Below.mono (by assumption) ?_) | (simp; done) | (simp; omega) | omega))⟩
    obtain ⟨bx, ox, rfl, hbx, hcx⟩ := Rds.all hx (by omega)
    have hx0 := hcx k hlt 0 _ rfl
    have hx1 := hcx k hlt 1 _ rfl
    have hx2 := hcx k hlt 2 _ rfl
    have hx3 := hcx k hlt 3 _ rfl
    simp only [Nat.add_zero] at hx0
    have HX := hid hcx
    have HS := hid (pairsTo_succ xs g k hlt)
    have hbd := hok k hlt
    unfold bdP at hbd
    have HF := hid hF
    have HO := hid hout
    clear hcx hF hout hx
    obtain ⟨a, hak⟩ : ∃ a, a = xs[k] := ⟨_, rfl⟩
    simp only [← hak] at hx0 hx1 hx2 hx3 HS hbd
    clear hak
    obtain ⟨ys, hys⟩ : ∃ ys, ys = xs.drop (k + 1) := ⟨_, rfl⟩
    have hyl : ys.length = xs.length - (k + 1) := by rw [hys]; simp
    have HYS := hid hys
    simp only [← hys] at HS
    clear hys
    go_wp2_with (fail)
    go_loopw [6, 8] (fun v i wv => ∃ (q m : Nat) (A2 : Option Addr) (cp2 : Nat) (ou : List (Int × Int)), m ≤ ys.length ∧ (q ≤ k + 1 + m ∧ k + 1 + m ≤ q) ∧ i = .int .i64 q ∧ v = .slice A2 ou.length cp2 ∧ FreshA cPr 2 65 w.heap.size wv A2 cp2 ou ∧ ou = out ++ rowP a (ys.take m) g ∧ ou.length ≤ 6 * k + m ∧ Below w.heap.size w wv) (fun _ i _ => xs.length - (intOf i).toNat)
    case atStart => exact ⟨k + 1, 0, A', cp, out, Nat.zero_le _, by omega, by go_num, rfl, HF.out, by simp [rowP], by omega, hbr⟩
    case round =>
      obtain ⟨q, m, A2, cp2, ou, hm, hq, rfl, rfl, hF2, hou, hol2, hbv⟩ := hrel
      clear hc hf hz
      have hc := cellOf hbv
      have hf := frozOf hbv
      have hz := sizeOf hbv
      have hlo := hF2.lo
      have hhi := hF2.hi
      by_cases hmt : m < ys.length
      rotate_left
      · obtain rfl : m = ys.length := by omega
        rw [List.take_length] at hou
        have HOU := hid hou
        clear hou
        go_wp2_with (fail)
        go_roundw
        case rel => exact ⟨k + 1, A2, cp2, ou, by omega, by go_num, rfl, hF2, by rw [HOU.out, HS.out, HO.out], by omega, by (repeat' (first | exact Below.refl _ _ | assumption | refine Below.setCell ?_ ?_ _ | refine Below.drew ?_ | refine Below.alloc ?_ ?_ _ | refine Below.trans ?_ (Below.mono (by assumption) ?_) | (simp; done) | (simp; omega) | omega))⟩
        case measure => simp [intOf]; omega
      have hql : q < xs.length := by omega
      have hey : ys[m] = xs[q] := by
        obtain rfl : q = k + 1 + m := by omega
        simp [HYS.out]
      have hy0 := HX.out q hql 0 _ rfl
      have hy1 := HX.out q hql 1 _ rfl
      have hy2 := HX.out q hql 2 _ rfl
      have hy3 := HX.out q hql 3 _ rfl
      simp only [Nat.add_zero, ← hey] at hy0 hy1 hy2 hy3
      have HR := hid (rowP_snoc a ys g m hmt)
      have hbb := hok q hql
      rw [← hey] at hbb
      unfold bdP at hbb
      have HF2 := hid hF2
      have HOU := hid hou
      clear hF2 hou hey hok
      generalize ys[m] = b at *
      go_wp2_with (fail)
      refine wp_region_w (n := 10) [] [] (FS27_10 a b g bx ox k q xs.length cap w) rfl (by kernel_rfl) (fun _ _ d _ _ h => by cases d <;> exact h) ?_ ?_ ?_ ?_ ?_ ?_
      · intro iq
        match iq with
        | 0 | 1 | 2 | 3 | 4 | 5 | 6 | 7 | 8 | 9 => exact Stable.const _
        | n + 10 => exact Stable.const _
      · intro iq hi
        exact absurd hi (by simp)
      · intro iq hi
        exact absurd hi (by simp)
      · intro iq o hi hl ho vals w1 hb1 hf
        exact absurd hl (by simp)
      · intro iq o hi hl ho vals w1 hb1 hf
        match iq, hi with
        | 0, _ =>
          injection ho with ho
          subst ho
          clear hl
          simp only [fillA, List.take, List.drop, put_none, Act.put, List.setIfInBounds_toArray, List.set_cons_zero, List.set_cons_succ, Nat.reduceAdd]
          clear hf
          go_wp2_with (fail)
          exact RQ.mk rfl ⟨(by first | rfl | (simp [FS27_10]; done) | (simp [FS27_10, *]; done) | (simp [FS27_10, gotV]; done) | (simp [FS27_10, gotV]; omega)), fun h => absurd h (by decide)⟩ (Below.refl _ _)
        | 1, _ =>
          injection ho with ho
          subst ho
          clear hl
          simp only [fillA, List.take, List.drop, put_none, Act.put, List.setIfInBounds_toArray, List.set_cons_zero, List.set_cons_succ, Nat.reduceAdd]
          clear hf
          go_wp2_with (fail)
          exact RQ.mk rfl ⟨(by first | rfl | (simp [FS27_10]; done) | (simp [FS27_10, *]; done) | (simp [FS27_10, gotV]; done) | (simp [FS27_10, gotV]; omega)), fun h => absurd h (by decide)⟩ (Below.refl _ _)
        | 2, _ =>
          injection ho with ho
          subst ho
          clear hl
          simp only [fillA, List.take, List.drop, put_none, Act.put, List.setIfInBounds_toArray, List.set_cons_zero, List.set_cons_succ, Nat.reduceAdd]
          have f0 := hf 0 (by decide) (by kernel_rfl)
          generalize vals 0 = v0 at *
          subst f0
          have f1 := hf 1 (by decide) (by kernel_rfl)
          generalize vals 1 = v1 at *
          subst f1
          clear hf
          go_wp2_with (fail)
          exact RQ.mk rfl ⟨(by first | rfl | (simp [FS27_10]; done) | (simp [FS27_10, *]; done) | (simp [FS27_10, gotV]; done) | (simp [FS27_10, gotV]; omega)), fun h => absurd h (by decide)⟩ (Below.refl _ _)
        | 3, _ =>
          injection ho with ho
          subst ho
          clear hl
          simp only [fillA, List.take, List.drop, put_none, Act.put, List.setIfInBounds_toArray, List.set_cons_zero, List.set_cons_succ, Nat.reduceAdd]
          have f2 := hf 2 (by decide) (by kernel_rfl)
          generalize vals 2 = v2 at *
          subst f2
          clear hf
          have hc1 := cellOf hb1
          have hf1 := frozOf hb1
          have hz1 := sizeOf hb1
          try simp at hz1
          go_wp2_with (fail)
          exact RQ.mk rfl ⟨(by first | rfl | (simp [FS27_10]; done) | (simp [FS27_10, *]; done) | (simp [FS27_10, gotV]; done) | (simp [FS27_10, gotV]; omega)), fun h => absurd h (by decide)⟩ (Below.refl _ _)
        | 4, _ =>
          injection ho with ho
          subst ho
          clear hl
          simp only [fillA, List.take, List.drop, put_none, Act.put, List.setIfInBounds_toArray, List.set_cons_zero, List.set_cons_succ, Nat.reduceAdd]
          clear hf
          go_wp2_with (fail)
          exact RQ.mk rfl ⟨(by first | rfl | (simp [FS27_10]; done) | (simp [FS27_10, *]; done) | (simp [FS27_10, gotV]; done) | (simp [FS27_10, gotV]; omega)), fun h => absurd h (by decide)⟩ (Below.refl _ _)
        | 5, _ =>
          injection ho with ho
          subst ho
          clear hl
          simp only [fillA, List.take, List.drop, put_none, Act.put, List.setIfInBounds_toArray, List.set_cons_zero, List.set_cons_succ, Nat.reduceAdd]
          clear hf
          go_wp2_with (fail)
          exact RQ.mk rfl ⟨(by first | rfl | (simp [FS27_10]; done) | (simp [FS27_10, *]; done) | (simp [FS27_10, gotV]; done) | (simp [FS27_10, gotV]; omega)), fun h => absurd h (by decide)⟩ (Below.refl _ _)
        | 6, _ =>
          injection ho with ho
          subst ho
          clear hl
          simp only [fillA, List.take, List.drop, put_none, Act.put, List.setIfInBounds_toArray, List.set_cons_zero, List.set_cons_succ, Nat.reduceAdd]
          have f4 := hf 4 (by decide) (by kernel_rfl)
          generalize vals 4 = v4 at *
          subst f4
          have f5 := hf 5 (by decide) (by kernel_rfl)
          generalize vals 5 = v5 at *
          subst f5
          clear hf
          go_wp2_with (fail)
          exact RQ.mk rfl ⟨(by first | rfl | (simp [FS27_10]; done) | (simp [FS27_10, *]; done) | (simp [FS27_10, gotV]; done) | (simp [FS27_10, gotV]; omega)), fun h => absurd h (by decide)⟩ (Below.refl _ _)
        | 7, _ =>
          injection ho with ho
          subst ho
          clear hl
          simp only [fillA, List.take, List.drop, put_none, Act.put, List.setIfInBounds_toArray, List.set_cons_zero, List.set_cons_succ, Nat.reduceAdd]
          have f6 := hf 6 (by decide) (by kernel_rfl)
          generalize vals 6 = v6 at *
          subst f6
          clear hf
          have hc1 := cellOf hb1
          have hf1 := frozOf hb1
          have hz1 := sizeOf hb1
          try simp at hz1
          go_wp2_with (fail)
          exact RQ.mk rfl ⟨(by first | rfl | (simp [FS27_10]; done) | (simp [FS27_10, *]; done) | (simp [FS27_10, gotV]; done) | (simp [FS27_10, gotV]; omega)), fun h => absurd h (by decide)⟩ (Below.refl _ _)
        | 8, _ =>
          injection ho with ho
          subst ho
          clear hl
          simp only [fillA, List.take, List.drop, put_none, Act.put, List.setIfInBounds_toArray, List.set_cons_zero, List.set_cons_succ, Nat.reduceAdd]
          clear hf
          go_wp2_with (fail)
          exact RQ.mk rfl ⟨(by first | rfl | (simp [FS27_10]; done) | (simp [FS27_10, *]; done) | (simp [FS27_10, gotV]; done) | (simp [FS27_10, gotV]; omega)), fun h => absurd h (by decide)⟩ (Below.refl _ _)
        | 9, _ =>
          injection ho with ho
          subst ho
          clear hl
          simp only [fillA, List.take, List.drop, put_none, Act.put, List.setIfInBounds_toArray, List.set_cons_zero, List.set_cons_succ, Nat.reduceAdd]
          have f3 := hf 3 (by decide) (by kernel_rfl)
          generalize vals 3 = v3 at *
          subst f3
          have f7 := hf 7 (by decide) (by kernel_rfl)
          generalize vals 7 = v7 at *
          subst f7
          have f8 := hf 8 (by decide) (by kernel_rfl)
          generalize vals 8 = v8 at *
          subst f8
          clear hf
          have hc1 := cellOf hb1
          have hf1 := frozOf hb1
          have hz1 := sizeOf hb1
          try simp at hz1
          go_wp2_with (first | (go_at_call 54; refine (c_spec_l14Clash _ _ _ _ _ _ _ _ _ _ (by omega) (by omega) (by omega) (by omega)).mono ?_; rintro e w' ⟨rfl, hb⟩; have hc := cellOf hb; have hf := frozOf hb; have hz := sizeOf hb; try simp at hz))
          exact RQ.mk rfl ⟨(by first | rfl | (simp [FS27_10]; done) | (simp [FS27_10, *]; done) | (simp [FS27_10, gotV]; done) | (simp [FS27_10, gotV]; omega)), fun h => absurd h (by decide)⟩ (by (repeat' (first | exact Below.refl _ _ | assumption | refine Below.setCell ?_ ?_ _ | refine Below.drew ?_ | refine Below.alloc ?_ ?_ _ | refine Below.trans ?_ (Below.mono (by assumption) ?_) | (simp; done) | (simp; omega) | omega)))
      · intro vals w1 hb1 hf hd
        simp only [fillA, List.take, List.drop, put_none, Act.put, List.setIfInBounds_toArray, List.set_cons_zero, List.set_cons_succ, Nat.reduceAdd]
        clear hd
        have f0 := hf 0 (by decide)
        generalize vals 0 = v0 at *
        subst f0
        have f1 := hf 1 (by decide)
        generalize vals 1 = v1 at *
        subst f1
        have f2 := hf 2 (by decide)
        generalize vals 2 = v2 at *
        subst f2
        have f3 := hf 3 (by decide)
        generalize vals 3 = v3 at *
        subst f3
        have f4 := hf 4 (by decide)
        generalize vals 4 = v4 at *
        subst f4
        have f5 := hf 5 (by decide)
        generalize vals 5 = v5 at *
        subst f5
        have f6 := hf 6 (by decide)
        generalize vals 6 = v6 at *
        subst f6
        have f7 := hf 7 (by decide)
        generalize vals 7 = v7 at *
        subst f7
        have f8 := hf 8 (by decide)
        generalize vals 8 = v8 at *
        subst f8
        have f9 := hf 9 (by decide)
        generalize vals 9 = v9 at *
        subst f9
        clear hf
        have hc1 := cellOf hb1
        have hf1 := frozOf hb1
        have hz1 := sizeOf hb1
        try simp at hz1
        by_cases hcl : clash a b g = true
        · have HR2 := hid (HR.out.trans (by rw [if_pos hcl]))
          simp only [clash] at hcl
          simp only [hcl]
          go_wp2_with (fail)
          refine wp_region_wt (n := 12) [0] [] (FS27_11 a b g bx ox k q xs.length cap A2 cp2 ou.length w) rfl (by kernel_rfl) (fun _ _ d _ _ h => by cases d <;> exact h) ?_ ?_ ?_ ?_ ?_ ?_
          · intro iq
            match iq with
            | 0 | 1 | 2 | 3 | 4 | 5 | 6 | 7 | 8 | 9 | 10 | 11 => exact Stable.const _
            | n + 12 => exact Stable.const _
          · intro iq hi
            exact absurd hi (by simp)
          · intro iq hi
            have hcase : iq = 0 := by simpa using hi
            subst hcase
            rfl
          · intro iq o hi hl ho vals w1 hb1 hf
            match iq, hi with
            | 0, _ =>
              injection ho with ho
              subst ho
              clear hl
              simp only [fillA, List.take, List.drop, put_none, Act.put, List.setIfInBounds_toArray, List.set_cons_zero, List.set_cons_succ, Nat.reduceAdd]
              exact ⟨_, rfl, .inl ⟨rfl, fun _ => rfl⟩⟩
          · intro iq o hi hl ho vals w1 hb1 hf
            match iq, hi with
            | 0, _ => exact absurd hl (by decide)
            | 1, _ =>
              injection ho with ho
              subst ho
              clear hl
              simp only [fillA, List.take, List.drop, put_none, Act.put, List.setIfInBounds_toArray, List.set_cons_zero, List.set_cons_succ, Nat.reduceAdd]
              clear hf
              go_wp2_with (fail)
              exact RQ.mk rfl ⟨(by first | rfl | (simp [FS27_11]; done) | (simp [FS27_11, *]; done) | (simp [FS27_11, gotV]; done) | (simp [FS27_11, gotV]; omega)), fun h => absurd h (by decide)⟩ (Below.refl _ _)
            | 2, _ =>
              injection ho with ho
              subst ho
              clear hl
              simp only [fillA, List.take, List.drop, put_none, Act.put, List.setIfInBounds_toArray, List.set_cons_zero, List.set_cons_succ, Nat.reduceAdd]
              clear hf
              go_wp2_with (fail)
              exact RQ.mk rfl ⟨(by first | rfl | (simp [FS27_11]; done) | (simp [FS27_11, *]; done) | (simp [FS27_11, gotV]; done) | (simp [FS27_11, gotV]; omega)), fun h => absurd h (by decide)⟩ (Below.refl _ _)
            | 3, _ =>
              injection ho with ho
              subst ho
              clear hl
              simp only [fillA, List.take, List.drop, put_none, Act.put, List.setIfInBounds_toArray, List.set_cons_zero, List.set_cons_succ, Nat.reduceAdd]
              have f1 := hf 1 (by decide) (by kernel_rfl)
              generalize vals 1 = v1 at *
              subst f1
              have f2 := hf 2 (by decide) (by kernel_rfl)
              generalize vals 2 = v2 at *
              subst f2
              clear hf
              go_wp2_with (fail)
              exact RQ.mk rfl ⟨(by first | rfl | (simp [FS27_11]; done) | (simp [FS27_11, *]; done) | (simp [FS27_11, gotV]; done) | (simp [FS27_11, gotV]; omega)), fun h => absurd h (by decide)⟩ (Below.refl _ _)
            | 4, _ =>
              injection ho with ho
              subst ho
              clear hl
              simp only [fillA, List.take, List.drop, put_none, Act.put, List.setIfInBounds_toArray, List.set_cons_zero, List.set_cons_succ, Nat.reduceAdd]
              have f3 := hf 3 (by decide) (by kernel_rfl)
              generalize vals 3 = v3 at *
              subst f3
              clear hf
              go_wp2_with (fail)
              exact RQ.mk rfl ⟨(by first | rfl | (simp [FS27_11]; done) | (simp [FS27_11, *]; done) | (simp [FS27_11, gotV]; done) | (simp [FS27_11, gotV]; omega)), fun h => absurd h (by decide)⟩ (Below.refl _ _)
            | 5, _ =>
              injection ho with ho
              subst ho
              clear hl
              simp only [fillA, List.take, List.drop, put_none, Act.put, List.setIfInBounds_toArray, List.set_cons_zero, List.set_cons_succ, Nat.reduceAdd]
              have f4 := hf 4 (by decide) (by kernel_rfl)
              generalize vals 4 = v4 at *
              subst f4
              clear hf
              have hc1 := cellOf hb1
              have hf1 := frozOf hb1
              have hz1 := sizeOf hb1
              try simp at hz1
              go_wp2_with (fail)
              exact RQ.mk rfl ⟨(by first | rfl | (simp [FS27_11]; done) | (simp [FS27_11, *]; done) | (simp [FS27_11, gotV]; done) | (simp [FS27_11, gotV]; omega)), fun h => absurd h (by decide)⟩ (Below.refl _ _)
            | 6, _ =>
              injection ho with ho
              subst ho
              clear hl
              simp only [fillA, List.take, List.drop, put_none, Act.put, List.setIfInBounds_toArray, List.set_cons_zero, List.set_cons_succ, Nat.reduceAdd]
              clear hf
              go_wp2_with (fail)
              exact RQ.mk rfl ⟨(by first | rfl | (simp [FS27_11]; done) | (simp [FS27_11, *]; done) | (simp [FS27_11, gotV]; done) | (simp [FS27_11, gotV]; omega)), fun h => absurd h (by decide)⟩ (Below.refl _ _)
            | 7, _ =>
              injection ho with ho
              subst ho
              clear hl
              simp only [fillA, List.take, List.drop, put_none, Act.put, List.setIfInBounds_toArray, List.set_cons_zero, List.set_cons_succ, Nat.reduceAdd]
              clear hf
              go_wp2_with (fail)
              exact RQ.mk rfl ⟨(by first | rfl | (simp [FS27_11]; done) | (simp [FS27_11, *]; done) | (simp [FS27_11, gotV]; done) | (simp [FS27_11, gotV]; omega)), fun h => absurd h (by decide)⟩ (Below.refl _ _)
            | 8, _ =>
              injection ho with ho
              subst ho
              clear hl
              simp only [fillA, List.take, List.drop, put_none, Act.put, List.setIfInBounds_toArray, List.set_cons_zero, List.set_cons_succ, Nat.reduceAdd]
              have f6 := hf 6 (by decide) (by kernel_rfl)
              generalize vals 6 = v6 at *
              subst f6
              have f7 := hf 7 (by decide) (by kernel_rfl)
              generalize vals 7 = v7 at *
              subst f7
              clear hf
              go_wp2_with (fail)
              exact RQ.mk rfl ⟨(by first | rfl | (simp [FS27_11]; done) | (simp [FS27_11, *]; done) | (simp [FS27_11, gotV]; done) | (simp [FS27_11, gotV]; omega)), fun h => absurd h (by decide)⟩ (Below.refl _ _)
            | 9, _ =>
              injection ho with ho
              subst ho
              clear hl
              simp only [fillA, List.take, List.drop, put_none, Act.put, List.setIfInBounds_toArray, List.set_cons_zero, List.set_cons_succ, Nat.reduceAdd]
              have f8 := hf 8 (by decide) (by kernel_rfl)
              generalize vals 8 = v8 at *
              subst f8
              clear hf
              go_wp2_with (fail)
              exact RQ.mk rfl ⟨(by first | rfl | (simp [FS27_11]; done) | (simp [FS27_11, *]; done) | (simp [FS27_11, gotV]; done) | (simp [FS27_11, gotV]; omega)), fun h => absurd h (by decide)⟩ (Below.refl _ _)
            | 10, _ =>
              injection ho with ho
              subst ho
              clear hl
              simp only [fillA, List.take, List.drop, put_none, Act.put, List.setIfInBounds_toArray, List.set_cons_zero, List.set_cons_succ, Nat.reduceAdd]
              have f9 := hf 9 (by decide) (by kernel_rfl)
              generalize vals 9 = v9 at *
              subst f9
              clear hf
              have hc1 := cellOf hb1
              have hf1 := frozOf hb1
              have hz1 := sizeOf hb1
              try simp at hz1
              go_wp2_with (fail)
              exact RQ.mk rfl ⟨(by first | rfl | (simp [FS27_11]; done) | (simp [FS27_11, *]; done) | (simp [FS27_11, gotV]; done) | (simp [FS27_11, gotV]; omega)), fun h => absurd h (by decide)⟩ (Below.refl _ _)
            | 11, _ =>
              injection ho with ho
              subst ho
              clear hl
              simp only [fillA, List.take, List.drop, put_none, Act.put, List.setIfInBounds_toArray, List.set_cons_zero, List.set_cons_succ, Nat.reduceAdd]
              have f5 := hf 5 (by decide) (by kernel_rfl)
              generalize vals 5 = v5 at *
              subst f5
              have f10 := hf 10 (by decide) (by kernel_rfl)
              generalize vals 10 = v10 at *
              subst f10
              clear hf
              go_wp2_with (fail)
              exact RQ.mk rfl ⟨(by first | rfl | (simp [FS27_11]; done) | (simp [FS27_11, *]; done) | (simp [FS27_11, gotV]; done) | (simp [FS27_11, gotV]; omega)), fun h => absurd h (by decide)⟩ (Below.refl _ _)
          · intro vals w1 hb1 hf hd
            simp only [fillA, List.take, List.drop, put_none, Act.put, List.setIfInBounds_toArray, List.set_cons_zero, List.set_cons_succ, Nat.reduceAdd]
            clear hd
            have f0 := hf 0 (by decide)
            generalize vals 0 = v0 at *
            subst f0
            have f1 := hf 1 (by decide)
            generalize vals 1 = v1 at *
            subst f1
            have f2 := hf 2 (by decide)
            generalize vals 2 = v2 at *
            subst f2
            have f3 := hf 3 (by decide)
            generalize vals 3 = v3 at *
            subst f3
            have f4 := hf 4 (by decide)
            generalize vals 4 = v4 at *
            subst f4
            have f5 := hf 5 (by decide)
            generalize vals 5 = v5 at *
            subst f5
            have f6 := hf 6 (by decide)
            generalize vals 6 = v6 at *
            subst f6
            have f7 := hf 7 (by decide)
            generalize vals 7 = v7 at *
            subst f7
            have f8 := hf 8 (by decide)
            generalize vals 8 = v8 at *
            subst f8
            have f9 := hf 9 (by decide)
            generalize vals 9 = v9 at *
            subst f9
            have f10 := hf 10 (by decide)
            generalize vals 10 = v10 at *
            subst f10
            have f11 := hf 11 (by decide)
            generalize vals 11 = v11 at *
            subst f11
            clear hf
            have hc1 := cellOf hb1
            have hf1 := frozOf hb1
            have hz1 := sizeOf hb1
            try simp at hz1
            go_wp2_with (at_builtin; refine wpList_push rfl (.tmp 43) (.tmp 55) 42 rfl 65 i0 _ 2 16 Try.underlying42 hI0 hI1 hI2 hI3 rfl (by decide) (fun _ => rfl) one_Pr (w.heap.size) A2 ou.length cp2 (ou) rfl rfl (HF2.out.below (by (repeat' (first | exact Below.refl _ _ | assumption | refine Below.setCell ?_ ?_ _ | refine Below.drew ?_ | refine Below.alloc ?_ ?_ _ | refine Below.trans ?_ (Below.mono (by assumption) ?_) | (simp; done) | (simp; omega) | omega)))) ((a.1, b.1)) _ 1 rfl ?_ ?_ ?_ ?_ ?_; (refine news_Pr _ _ _ ?_ ?_ <;> simp [go_sem, ↓IntWalk.iteOmega]); (unfold maxLen; omega); omega; (simp; omega); intro A3 cp3 w3 hF3 hg3 hat3; have hc3 := cellGrown hg3 hlo hhi; have hf3 := frozGrown hg3 hlo hhi; have hs3 := hg3.size; (try simp at hs3); have hb3 := below_of_grown (B := w.heap.size) hg3 (hlo.mono (by omega)) (by simp; omega))
            go_roundw
            case rel =>
              refine ⟨q + 1, m + 1, A3, cp3, ou ++ [(a.1, b.1)], by omega, by omega, by go_num, by simp, hF3, ?_, by simp; omega, by (repeat' (first | exact Below.refl _ _ | assumption | refine Below.setCell ?_ ?_ _ | refine Below.drew ?_ | refine Below.alloc ?_ ?_ _ | refine Below.trans ?_ (Below.mono (by assumption) ?_) | (simp; done) | (simp; omega) | omega))⟩
              rw [HOU.out, HR2.out, List.append_assoc]
            case measure => simp [intOf]; omega
        · have hcl' : clash a b g = false := by simpa using hcl
          have HR2 := hid (HR.out.trans (by rw [if_neg hcl]))
          clear hcl
          simp only [clash] at hcl'
          simp only [hcl']
          go_wp2_with (fail)
          go_roundw
          case rel => exact ⟨q + 1, m + 1, A2, cp2, ou, by omega, by omega, by go_num, rfl, HF2.out.below (by (repeat' (first | exact Below.refl _ _ | assumption | refine Below.setCell ?_ ?_ _ | refine Below.drew ?_ | refine Below.alloc ?_ ?_ _ | refine Below.trans ?_ (Below.mono (by assumption) ?_) | (simp; done) | (simp; omega) | omega))), by rw [HOU.out, HR2.out, List.append_nil], by omega, by (repeat' (first | exact Below.refl _ _ | assumption | refine Below.setCell ?_ ?_ _ | refine Below.drew ?_ | refine Below.alloc ?_ ?_ _ | refine Below.trans ?_ (Below.mono (by assumption) ?_) | (simp; done) | (simp; omega) | omega))⟩
          case measure => simp [intOf]; omega

end Go.Proofs.Ytgjbdcalmodhpaa
