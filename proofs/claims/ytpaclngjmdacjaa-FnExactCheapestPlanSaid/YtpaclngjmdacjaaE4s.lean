import Derived.Test.YtpaclngjmdacjaaE0
import Derived.Test.YtpaclngjmdacjaaE1s
namespace Go.Proofs.Ytpaclngjmdacjaa
set_option linter.unusedSimpArgs false
set_option linter.unusedVariables false
open Go.RowKit

def FS49_6 (l h v : Int) (A : Option Addr) (nf capf : Nat) (B : Option Addr) (np capq : Nat) (x : Int) (bx ox k n0 capp : Nat) (w W0 : World) (iq : Nat) (v : Value) (w1 : World) : Prop := match iq with
  | 0 => v = .slice (some ⟨bx, ox, none⟩) n0 capp
  | 1 => v = .int .i64 (k)
  | 2 => v = .pointer (some ⟨bx, ox + k, none⟩)
  | 3 => v = .int .i64 (x)
  | 4 => v = .pointer (some ⟨w.heap.size, 4, none⟩)
  | 5 => v = .slice B np capq
  | 6 => v = .int .i64 (np)
  | 7 => v = .int .u64 (np)
  | 8 => v = .int .i64 (topB np + 1)
  | 9 => v = .int .i64 ((topB np + 1) - 1)
  | 10 => v = .bool (inB (x) (0) ((topB np + 1) - 1))
  | 11 => v = .bool (!(inB (x) (0) ((topB np + 1) - 1)))
  | _ => True

set_option maxRecDepth 100000 in
set_option maxHeartbeats 4000000 in
theorem c_spec_l12Plan (l h v : Int) (A : Option Addr) (fs : List Int) (capf : Nat) (B : Option Addr) (ps : List (Int × Int × Int)) (capq : Nat) (C : Option Addr) (pl : List Int) (capp : Nat) (w : World) (hx : Rds cIn 1 w A fs) (hn : fs.length ≤ 9223372036854775807) (hy : Rds cPu 3 w B ps) (hm : ps.length ≤ 9223372036854775807) (hr : Rds cIn 1 w C pl) (hnr : pl.length ≤ 9223372036854775807) :
    Calls Try.prog 49 #[.agg #[.int .i64 l, .int .i64 h, .int .i64 v, .slice A fs.length capf, .slice B ps.length capq], .slice C pl.length capp] w fun e w' => e = .returned (.bool (planB l h v fs ps pl)) ∧ Below w.heap.size w w' := by
  by_cases hs0 : taskB l h v fs ps = true
  rotate_left
  · have hn0 : taskB l h v fs ps = false := Bool.eq_false_iff.2 hs0
    have HV := hid (show planB l h v fs ps pl = false by simp [planB, hn0])
    clear hs0
    go_enter Try.func49, Try.ntmps49
    go_wp2_with (first | (go_at_call 58; refine (c_spec_l12Good _ _ _ _ _ _ _ _ _ _ (by first | assumption | exact Rds.below hx (by (repeat' (first | exact Below.refl _ _ | assumption | refine Below.setCell ?_ ?_ _ | refine Below.drew ?_ | refine Below.alloc ?_ ?_ _ | refine Below.trans ?_ (Below.mono (by assumption) ?_) | (simp; done) | (simp; omega) | omega)))) (by omega) (by first | assumption | exact Rds.below hy (by (repeat' (first | exact Below.refl _ _ | assumption | refine Below.setCell ?_ ?_ _ | refine Below.drew ?_ | refine Below.alloc ?_ ?_ _ | refine Below.trans ?_ (Below.mono (by assumption) ?_) | (simp; done) | (simp; omega) | omega)))) (by omega)).mono ?_; rintro e w' ⟨rfl, hb⟩; have hc := cellOf hb; have hf := frozOf hb; have hz := sizeOf hb; try simp at hz))
    all_goals go_ret
    all_goals exact ⟨by first | (rw [HV.out]; done) | (rw [HV.out]; rfl), by (repeat' (first | exact Below.refl _ _ | assumption | refine Below.setCell ?_ ?_ _ | refine Below.drew ?_ | refine Below.alloc ?_ ?_ _ | refine Below.trans ?_ (Below.mono (by assumption) ?_) | (simp; done) | (simp; omega) | omega))⟩
  by_cases hs1 : pl.length = fs.length
  rotate_left
  · have HV := hid (show planB l h v fs ps pl = false by simp [planB, hs1])
    go_enter Try.func49, Try.ntmps49
    go_wp2_with (first | (go_at_call 58; refine (c_spec_l12Good _ _ _ _ _ _ _ _ _ _ (by first | assumption | exact Rds.below hx (by (repeat' (first | exact Below.refl _ _ | assumption | refine Below.setCell ?_ ?_ _ | refine Below.drew ?_ | refine Below.alloc ?_ ?_ _ | refine Below.trans ?_ (Below.mono (by assumption) ?_) | (simp; done) | (simp; omega) | omega)))) (by omega) (by first | assumption | exact Rds.below hy (by (repeat' (first | exact Below.refl _ _ | assumption | refine Below.setCell ?_ ?_ _ | refine Below.drew ?_ | refine Below.alloc ?_ ?_ _ | refine Below.trans ?_ (Below.mono (by assumption) ?_) | (simp; done) | (simp; omega) | omega)))) (by omega)).mono ?_; rintro e w' ⟨rfl, hb⟩; have hc := cellOf hb; have hf := frozOf hb; have hz := sizeOf hb; try simp at hz))
    all_goals go_ret
    all_goals exact ⟨by first | (rw [HV.out]; done) | (rw [HV.out]; rfl), by (repeat' (first | exact Below.refl _ _ | assumption | refine Below.setCell ?_ ?_ _ | refine Below.drew ?_ | refine Below.alloc ?_ ?_ _ | refine Below.trans ?_ (Below.mono (by assumption) ?_) | (simp; done) | (simp; omega) | omega))⟩
  have hn2 := headB_bd (taskB_head hs0)
  have HV := hid (show planB l h v fs ps pl = pl.all (bitsOk ps.length) by rw [planB, hs0]; simp [hs1])
  have hpl5 : pl.length ≤ 5 := by omega
  have HPW := hid (topB_shl (n := ps.length) (by omega))
  have htb := topB_bd ps.length
  obtain ⟨hs1a, hs1b⟩ : pl.length ≤ fs.length ∧ fs.length ≤ pl.length := by omega
  have hsI : (pl.length : Int) = (fs.length : Int) := by omega
  clear hs1
  go_enter Try.func49, Try.ntmps49
  go_wp2_with (first | (go_at_call 58; refine (c_spec_l12Good _ _ _ _ _ _ _ _ _ _ (by first | assumption | exact Rds.below hx (by (repeat' (first | exact Below.refl _ _ | assumption | refine Below.setCell ?_ ?_ _ | refine Below.drew ?_ | refine Below.alloc ?_ ?_ _ | refine Below.trans ?_ (Below.mono (by assumption) ?_) | (simp; done) | (simp; omega) | omega)))) (by omega) (by first | assumption | exact Rds.below hy (by (repeat' (first | exact Below.refl _ _ | assumption | refine Below.setCell ?_ ?_ _ | refine Below.drew ?_ | refine Below.alloc ?_ ?_ _ | refine Below.trans ?_ (Below.mono (by assumption) ?_) | (simp; done) | (simp; omega) | omega)))) (by omega)).mono ?_; rintro e w' ⟨rfl, hb⟩; have hc := cellOf hb; have hf := frozOf hb; have hz := sizeOf hb; try simp at hz))
  clear hsI hs0
  go_loopw [5] (fun i wr => ∃ k : Nat, k ≤ pl.length ∧ i = .int .i64 k ∧ (pl.take k).all (bitsOk ps.length) = true ∧ wr.cell? ⟨w.heap.size, 0, none⟩ = some (.int .i64 l) ∧ wr.cell? ⟨w.heap.size, 1, none⟩ = some (.int .i64 h) ∧ wr.cell? ⟨w.heap.size, 2, none⟩ = some (.int .i64 v) ∧ wr.cell? ⟨w.heap.size, 3, none⟩ = some (.slice A fs.length capf) ∧ wr.cell? ⟨w.heap.size, 4, none⟩ = some (.slice B ps.length capq) ∧ w.heap.size + 1 ≤ wr.heap.size ∧ Below w.heap.size w wr) (fun i _ => pl.length - (intOf i).toNat)
  case atStart =>
    refine ⟨0, Nat.zero_le _, rfl, rfl, ?_, ?_, ?_, ?_, ?_, ?_, by (repeat' (first | exact Below.refl _ _ | assumption | refine Below.setCell ?_ ?_ _ | refine Below.drew ?_ | refine Below.alloc ?_ ?_ _ | refine Below.trans ?_ (Below.mono (by assumption) ?_) | (simp; done) | (simp; omega) | omega))⟩
    all_goals first | (simp [go_sem, ↓IntWalk.iteOmega, *]; done) | (simp at *; omega)
  case round =>
    obtain ⟨k, hk, rfl, han, hp0, hp1, hp2, hp3, hp4, hzz, hbr⟩ := hrel
    have hc := cellOf hbr
    have hf := frozOf hbr
    have hz := sizeOf hbr
    have hp0' : far _ _ _ = _ := hp0
    have hp1' : far _ _ _ = _ := hp1
    have hp2' : far _ _ _ = _ := hp2
    have hp3' : far _ _ _ = _ := hp3
    have hp4' : far _ _ _ = _ := hp4
    by_cases hlt : k < pl.length
    · obtain ⟨bx, ox, rfl, hbx, hcx⟩ := hr k pl[k] (List.getElem?_eq_getElem hlt)
      have hx0 := hcx 0 _ rfl
      simp only [Nat.add_zero, Nat.mul_one] at hx0
      have HS := hid (all_snoc (bitsOk ps.length) pl k hlt)
      have HA := hid han
      have HM := hid (fun e => HV.out.trans (all_miss (p := bitsOk ps.length) hlt e))
      have hpw := HPW.out
      clear hcx hr han
      generalize pl[k] = x at *
      go_wp2_with (fail)
      refine wp_region_w (n := 12) [] [] (FS49_6 l h v A fs.length capf B ps.length capq x bx ox k pl.length capp w) rfl (by kernel_rfl) (fun _ _ d _ _ h => by cases d <;> exact h) ?_ ?_ ?_ ?_ ?_ ?_
      · intro iq
        match iq with
        | 0 | 1 | 2 | 3 | 4 | 5 | 6 | 7 | 8 | 9 | 10 | 11 => exact Stable.const _
        | n + 12 => exact Stable.const _
      · intro iq hi
        exact absurd hi (by simp)
      · intro iq hi
        exact absurd hi (by simp)
      · intro iq o hi hl ho vals w1 hb1 hf
        exact absurd hl (by simp)
      · intro iq o hi hl ho vals w1 hb1 hf
        match iq, hi with
        | 0, _ =>
          injection ho with ho
          subst ho
          clear hl
          simp only [fillA, List.take, List.drop, put_none, Act.put, List.setIfInBounds_toArray, List.set_cons_zero, List.set_cons_succ, Nat.reduceAdd]
          clear hf
          go_wp2_with (fail)
          exact RQ.mk rfl ⟨(by first | rfl | (simp [FS49_6]; done) | (simp [FS49_6, *]; done) | (simp [FS49_6, gotV]; done) | (simp [FS49_6, gotV]; omega)), fun h => absurd h (by decide)⟩ (Below.refl _ _)
        | 1, _ =>
          injection ho with ho
          subst ho
          clear hl
          simp only [fillA, List.take, List.drop, put_none, Act.put, List.setIfInBounds_toArray, List.set_cons_zero, List.set_cons_succ, Nat.reduceAdd]
          clear hf
          go_wp2_with (fail)
          exact RQ.mk rfl ⟨(by first | rfl | (simp [FS49_6]; done) | (simp [FS49_6, *]; done) | (simp [FS49_6, gotV]; done) | (simp [FS49_6, gotV]; omega)), fun h => absurd h (by decide)⟩ (Below.refl _ _)
        | 2, _ =>
          injection ho with ho
          subst ho
          clear hl
          simp only [fillA, List.take, List.drop, put_none, Act.put, List.setIfInBounds_toArray, List.set_cons_zero, List.set_cons_succ, Nat.reduceAdd]
          have f0 := hf 0 (by decide) (by kernel_rfl)
          generalize vals 0 = v0 at *
          subst f0
          have f1 := hf 1 (by decide) (by kernel_rfl)
          generalize vals 1 = v1 at *
          subst f1
          clear hf
          go_wp2_with (fail)
          exact RQ.mk rfl ⟨(by first | rfl | (simp [FS49_6]; done) | (simp [FS49_6, *]; done) | (simp [FS49_6, gotV]; done) | (simp [FS49_6, gotV]; omega)), fun h => absurd h (by decide)⟩ (Below.refl _ _)
        | 3, _ =>
          injection ho with ho
          subst ho
          clear hl
          simp only [fillA, List.take, List.drop, put_none, Act.put, List.setIfInBounds_toArray, List.set_cons_zero, List.set_cons_succ, Nat.reduceAdd]
          have f2 := hf 2 (by decide) (by kernel_rfl)
          generalize vals 2 = v2 at *
          subst f2
          clear hf
          have hc1 := cellOf hb1
          have hf1 := frozOf hb1
          have hz1 := sizeOf hb1
          try simp at hz1
          go_wp2_with (fail)
          exact RQ.mk rfl ⟨(by first | rfl | (simp [FS49_6]; done) | (simp [FS49_6, *]; done) | (simp [FS49_6, gotV]; done) | (simp [FS49_6, gotV]; omega)), fun h => absurd h (by decide)⟩ (Below.refl _ _)
        | 4, _ =>
          injection ho with ho
          subst ho
          clear hl
          simp only [fillA, List.take, List.drop, put_none, Act.put, List.setIfInBounds_toArray, List.set_cons_zero, List.set_cons_succ, Nat.reduceAdd]
          clear hf
          go_wp2_with (fail)
          exact RQ.mk rfl ⟨(by first | rfl | (simp [FS49_6]; done) | (simp [FS49_6, *]; done) | (simp [FS49_6, gotV]; done) | (simp [FS49_6, gotV]; omega)), fun h => absurd h (by decide)⟩ (Below.refl _ _)
        | 5, _ =>
          injection ho with ho
          subst ho
          clear hl
          simp only [fillA, List.take, List.drop, put_none, Act.put, List.setIfInBounds_toArray, List.set_cons_zero, List.set_cons_succ, Nat.reduceAdd]
          have f4 := hf 4 (by decide) (by kernel_rfl)
          generalize vals 4 = v4 at *
          subst f4
          clear hf
          have hc1 := cellOf hb1
          have hf1 := frozOf hb1
          have hz1 := sizeOf hb1
          try simp at hz1
          go_wp2_with (fail)
          exact RQ.mk rfl ⟨(by first | rfl | (simp [FS49_6]; done) | (simp [FS49_6, *]; done) | (simp [FS49_6, gotV]; done) | (simp [FS49_6, gotV]; omega)), fun h => absurd h (by decide)⟩ (Below.refl _ _)
        | 6, _ =>
          injection ho with ho
          subst ho
          clear hl
          simp only [fillA, List.take, List.drop, put_none, Act.put, List.setIfInBounds_toArray, List.set_cons_zero, List.set_cons_succ, Nat.reduceAdd]
          have f5 := hf 5 (by decide) (by kernel_rfl)
          generalize vals 5 = v5 at *
          subst f5
          clear hf
          have hc1 := cellOf hb1
          have hf1 := frozOf hb1
          have hz1 := sizeOf hb1
          try simp at hz1
          go_wp2_with (fail)
          exact RQ.mk rfl ⟨(by first | rfl | (simp [FS49_6]; done) | (simp [FS49_6, *]; done) | (simp [FS49_6, gotV]; done) | (simp [FS49_6, gotV]; omega)), fun h => absurd h (by decide)⟩ (by (repeat' (first | exact Below.refl _ _ | assumption | refine Below.setCell ?_ ?_ _ | refine Below.drew ?_ | refine Below.alloc ?_ ?_ _ | refine Below.trans ?_ (Below.mono (by assumption) ?_) | (simp; done) | (simp; omega) | omega)))
        | 7, _ =>
          injection ho with ho
          subst ho
          clear hl
          simp only [fillA, List.take, List.drop, put_none, Act.put, List.setIfInBounds_toArray, List.set_cons_zero, List.set_cons_succ, Nat.reduceAdd]
          have f6 := hf 6 (by decide) (by kernel_rfl)
          generalize vals 6 = v6 at *
          subst f6
          clear hf
          go_wp2_with (fail)
          exact RQ.mk rfl ⟨(by first | rfl | (simp [FS49_6]; done) | (simp [FS49_6, *]; done) | (simp [FS49_6, gotV]; done) | (simp [FS49_6, gotV]; omega)), fun h => absurd h (by decide)⟩ (Below.refl _ _)
        | 8, _ =>
          injection ho with ho
          subst ho
          clear hl
          simp only [fillA, List.take, List.drop, put_none, Act.put, List.setIfInBounds_toArray, List.set_cons_zero, List.set_cons_succ, Nat.reduceAdd]
          have f7 := hf 7 (by decide) (by kernel_rfl)
          generalize vals 7 = v7 at *
          subst f7
          clear hf
          go_wp2_with (fail)
          exact RQ.mk rfl ⟨(by first | rfl | (simp [FS49_6]; done) | (simp [FS49_6, *]; done) | (simp [FS49_6, gotV]; done) | (simp [FS49_6, gotV]; omega)), fun h => absurd h (by decide)⟩ (Below.refl _ _)
        | 9, _ =>
          injection ho with ho
          subst ho
          clear hl
          simp only [fillA, List.take, List.drop, put_none, Act.put, List.setIfInBounds_toArray, List.set_cons_zero, List.set_cons_succ, Nat.reduceAdd]
          have f8 := hf 8 (by decide) (by kernel_rfl)
          generalize vals 8 = v8 at *
          subst f8
          clear hf
          go_wp2_with (fail)
          exact RQ.mk rfl ⟨(by first | rfl | (simp [FS49_6]; done) | (simp [FS49_6, *]; done) | (simp [FS49_6, gotV]; done) | (simp [FS49_6, gotV]; omega)), fun h => absurd h (by decide)⟩ (Below.refl _ _)
        | 10, _ =>
          injection ho with ho
          subst ho
          clear hl
          simp only [fillA, List.take, List.drop, put_none, Act.put, List.setIfInBounds_toArray, List.set_cons_zero, List.set_cons_succ, Nat.reduceAdd]
          have f3 := hf 3 (by decide) (by kernel_rfl)
          generalize vals 3 = v3 at *
          subst f3
          have f9 := hf 9 (by decide) (by kernel_rfl)
          generalize vals 9 = v9 at *
          subst f9
          clear hf
          have hc1 := cellOf hb1
          have hf1 := frozOf hb1
          have hz1 := sizeOf hb1
          try simp at hz1
          go_wp2_with (first | (go_at_call 59; refine (c_spec_l1In _ _ _ _ ).mono ?_; rintro e w' ⟨rfl, hb⟩; have hc := cellOf hb; have hf := frozOf hb; have hz := sizeOf hb; try simp at hz))
          exact RQ.mk rfl ⟨(by first | rfl | (simp [FS49_6]; done) | (simp [FS49_6, *]; done) | (simp [FS49_6, gotV]; done) | (simp [FS49_6, gotV]; omega)), fun h => absurd h (by decide)⟩ (by (repeat' (first | exact Below.refl _ _ | assumption | refine Below.setCell ?_ ?_ _ | refine Below.drew ?_ | refine Below.alloc ?_ ?_ _ | refine Below.trans ?_ (Below.mono (by assumption) ?_) | (simp; done) | (simp; omega) | omega)))
        | 11, _ =>
          injection ho with ho
          subst ho
          clear hl
          simp only [fillA, List.take, List.drop, put_none, Act.put, List.setIfInBounds_toArray, List.set_cons_zero, List.set_cons_succ, Nat.reduceAdd]
          have f10 := hf 10 (by decide) (by kernel_rfl)
          generalize vals 10 = v10 at *
          subst f10
          clear hf
          go_wp2_with (fail)
          exact RQ.mk rfl ⟨(by first | rfl | (simp [FS49_6]; done) | (simp [FS49_6, *]; done) | (simp [FS49_6, gotV]; done) | (simp [FS49_6, gotV]; omega)), fun h => absurd h (by decide)⟩ (Below.refl _ _)
      · intro vals w1 hb1 hf hd
        simp only [fillA, List.take, List.drop, put_none, Act.put, List.setIfInBounds_toArray, List.set_cons_zero, List.set_cons_succ, Nat.reduceAdd]
        clear hd
        have f0 := hf 0 (by decide)
        generalize vals 0 = v0 at *
        subst f0
        have f1 := hf 1 (by decide)
        generalize vals 1 = v1 at *
        subst f1
        have f2 := hf 2 (by decide)
        generalize vals 2 = v2 at *
        subst f2
        have f3 := hf 3 (by decide)
        generalize vals 3 = v3 at *
        subst f3
        have f4 := hf 4 (by decide)
        generalize vals 4 = v4 at *
        subst f4
        have f5 := hf 5 (by decide)
        generalize vals 5 = v5 at *
        subst f5
        have f6 := hf 6 (by decide)
        generalize vals 6 = v6 at *
        subst f6
        have f7 := hf 7 (by decide)
        generalize vals 7 = v7 at *
        subst f7
        have f8 := hf 8 (by decide)
        generalize vals 8 = v8 at *
        subst f8
        have f9 := hf 9 (by decide)
        generalize vals 9 = v9 at *
        subst f9
        have f10 := hf 10 (by decide)
        generalize vals 10 = v10 at *
        subst f10
        have f11 := hf 11 (by decide)
        generalize vals 11 = v11 at *
        subst f11
        clear hf
        have hc1 := cellOf hb1
        have hf1 := frozOf hb1
        have hz1 := sizeOf hb1
        try simp at hz1
        by_cases hg : inB x 0 (topB ps.length) = true
        · have HG : Hid (bitsOk ps.length x = true) := hg
          clear HM hpw
          simp only [show (topB ps.length + 1 - 1) = topB ps.length by omega, hg]
          go_wp2_with (fail)
          go_roundw
          case rel =>
            refine ⟨k + 1, by omega, by go_num, by rw [HS.out, HA.out, HG.out]; rfl, ?_, ?_, ?_, ?_, ?_, ?_, by (repeat' (first | exact Below.refl _ _ | assumption | refine Below.setCell ?_ ?_ _ | refine Below.drew ?_ | refine Below.alloc ?_ ?_ _ | refine Below.trans ?_ (Below.mono (by assumption) ?_) | (simp; done) | (simp; omega) | omega))⟩
            all_goals first | (simp [go_sem, ↓IntWalk.iteOmega, *]; done) | (simp [go_sem, ↓IntWalk.iteOmega, *]; omega) | omega
          case measure => simp [intOf]; omega
        · have hgf : inB x 0 (topB ps.length) = false := by simpa using hg
          have HV2 := hid (HM.out hgf)
          clear hg HM hpw
          simp only [show (topB ps.length + 1 - 1) = topB ps.length by omega, hgf]
          go_wp2_with (fail)
          go_ret
          exact ⟨ret_bool (by rw [HV2.out]), by (repeat' (first | exact Below.refl _ _ | assumption | refine Below.setCell ?_ ?_ _ | refine Below.drew ?_ | refine Below.alloc ?_ ?_ _ | refine Below.trans ?_ (Below.mono (by assumption) ?_) | (simp; done) | (simp; omega) | omega))⟩
    · obtain rfl : k = pl.length := by omega
      rw [List.take_length] at han
      have HV2 := hid (HV.out.trans han)
      clear han
      go_wp2_with (fail)
      go_ret
      exact ⟨ret_bool (by rw [HV2.out]), by (repeat' (first | exact Below.refl _ _ | assumption | refine Below.setCell ?_ ?_ _ | refine Below.drew ?_ | refine Below.alloc ?_ ?_ _ | refine Below.trans ?_ (Below.mono (by assumption) ?_) | (simp; done) | (simp; omega) | omega))⟩

end Go.Proofs.Ytpaclngjmdacjaa
