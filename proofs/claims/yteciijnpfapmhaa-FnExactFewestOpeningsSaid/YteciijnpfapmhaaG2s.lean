import Derived.Test.YteciijnpfapmhaaBrDefs
import Derived.Test.YteciijnpfapmhaaC1
namespace Go.Proofs.Yteciijnpfapmhaa
set_option linter.unusedSimpArgs false
set_option linter.unusedVariables false
open Go.RowKit

def FS56_6 (d t : Int) (x : Int × Int) (bx ox k n0 cap : Nat) (w W0 : World) (iq : Nat) (v : Value) (w1 : World) : Prop := match iq with
  | 0 => v = .int .i64 (t)
  | 1 => v = .pointer (some ⟨w.heap.size, 1, none⟩)
  | 2 => v = .slice (some ⟨bx, ox, none⟩) n0 cap
  | 3 => v = .int .i64 (k)
  | 4 => v = .pointer (some ⟨bx, ox + k * 2, none⟩)
  | 5 => v = .pointer (some ⟨bx, ox + k * 2 + 1, none⟩)
  | 6 => v = .int .i64 (x.2)
  | 7 => v = .bool (false)
  | 8 => v = .bool (false)
  | 9 => v = undef
  | 10 => v = undef
  | 11 => v = undef
  | 12 => v = undef
  | 13 => v = undef
  | 14 => v = undef
  | 15 => v = undef
  | 16 => v = undef
  | 17 => v = undef
  | 18 => v = undef
  | 19 => v = undef
  | 20 => v = undef
  | 21 => v = .bool (false)
  | _ => True

def FS56_6_12 (d t : Int) (x : Int × Int) (bx ox k n0 cap : Nat) (w W0 : World) (iq : Nat) (v : Value) (w1 : World) : Prop := match iq with
  | 0 => v = .int .i64 (t)
  | 1 => v = .pointer (some ⟨w.heap.size, 1, none⟩)
  | 2 => v = .slice (some ⟨bx, ox, none⟩) n0 cap
  | 3 => v = .int .i64 (k)
  | 4 => v = .pointer (some ⟨bx, ox + k * 2, none⟩)
  | 5 => v = .pointer (some ⟨bx, ox + k * 2 + 1, none⟩)
  | 6 => v = .int .i64 (x.2)
  | 7 => v = .bool (true)
  | 8 => v = .bool (true)
  | 9 => v = .pointer (some ⟨w.heap.size, 1, none⟩)
  | 10 => v = .slice (some ⟨bx, ox, none⟩) n0 cap
  | 11 => v = .int .i64 (k)
  | 12 => v = .pointer (some ⟨bx, ox + k * 2, none⟩)
  | 13 => v = .pointer (some ⟨bx, ox + k * 2, none⟩)
  | 14 => v = .int .i64 (x.1)
  | 15 => v = .int .i64 (t)
  | 16 => v = .pointer (some ⟨w.heap.size, 0, none⟩)
  | 17 => v = .int .i64 (d)
  | 18 => v = .int .i64 (t + d)
  | 19 => v = .int .i64 ((t + d) - 1)
  | 20 => v = .bool (false)
  | 21 => v = .bool (false)
  | _ => True

def FS56_6_13 (d t : Int) (x : Int × Int) (bx ox k n0 cap : Nat) (w W0 : World) (iq : Nat) (v : Value) (w1 : World) : Prop := match iq with
  | 0 => v = .int .i64 (t)
  | 1 => v = .pointer (some ⟨w.heap.size, 1, none⟩)
  | 2 => v = .slice (some ⟨bx, ox, none⟩) n0 cap
  | 3 => v = .int .i64 (k)
  | 4 => v = .pointer (some ⟨bx, ox + k * 2, none⟩)
  | 5 => v = .pointer (some ⟨bx, ox + k * 2 + 1, none⟩)
  | 6 => v = .int .i64 (x.2)
  | 7 => v = .bool (true)
  | 8 => v = .bool (true)
  | 9 => v = .pointer (some ⟨w.heap.size, 1, none⟩)
  | 10 => v = .slice (some ⟨bx, ox, none⟩) n0 cap
  | 11 => v = .int .i64 (k)
  | 12 => v = .pointer (some ⟨bx, ox + k * 2, none⟩)
  | 13 => v = .pointer (some ⟨bx, ox + k * 2, none⟩)
  | 14 => v = .int .i64 (x.1)
  | 15 => v = .int .i64 (t)
  | 16 => v = .pointer (some ⟨w.heap.size, 0, none⟩)
  | 17 => v = .int .i64 (d)
  | 18 => v = .int .i64 (t + d)
  | 19 => v = .int .i64 ((t + d) - 1)
  | 20 => v = .bool (true)
  | 21 => v = .bool (true)
  | _ => True

set_option maxRecDepth 100000 in
set_option maxHeartbeats 4000000 in
theorem c_spec_l15May (d : Int) (A : Option Addr) (xs : List (Int × Int)) (n cap : Nat) (t : Int) (w : World) (hx : Rds cIv 2 w A xs) (hxl : xs.length = n) (hn : xs.length ≤ 9223372036854775807) (hok : ∀ k (hk : k < xs.length), ivP xs[k]) (hd : 1 ≤ d ∧ d ≤ 30) :
    Calls Try.prog 56 #[.agg #[.int .i64 d, .slice A n cap], .int .i64 t] w fun e w' => e = .returned (.bool (mayB d xs t)) ∧ Below w.heap.size w w' := by
  subst hxl
  by_cases hs0 : 0 ≤ t
  rotate_left
  · have HV := hid (show mayB d xs t = false by simp [mayB, hs0])
    go_enter Try.func56, Try.ntmps56
    go_wp2_with (fail)
    all_goals go_ret
    all_goals exact ⟨by first | (rw [HV.out]; done) | (rw [HV.out]; rfl), by (repeat' (first | exact Below.refl _ _ | assumption | refine Below.setCell ?_ ?_ _ | refine Below.drew ?_ | refine Below.alloc ?_ ?_ _ | refine Below.trans ?_ (Below.mono (by assumption) ?_) | (simp; done) | (simp; omega) | omega))⟩
  by_cases hs1 : t + d ≤ 10000
  rotate_left
  · have HV := hid (show mayB d xs t = false by simp [mayB, hs1])
    go_enter Try.func56, Try.ntmps56
    go_wp2_with (fail)
    all_goals go_ret
    all_goals exact ⟨by first | (rw [HV.out]; done) | (rw [HV.out]; rfl), by (repeat' (first | exact Below.refl _ _ | assumption | refine Below.setCell ?_ ?_ _ | refine Below.drew ?_ | refine Below.alloc ?_ ?_ _ | refine Below.trans ?_ (Below.mono (by assumption) ?_) | (simp; done) | (simp; omega) | omega))⟩
  go_enter Try.func56, Try.ntmps56
  go_wp2_with (fail)
  go_loopw [5] (fun p wr => ∃ k : Nat, k ≤ xs.length ∧ p = .int .i64 k ∧ (xs.take k).any (hitI t d) = false ∧ wr.cell? ⟨w.heap.size, 0, none⟩ = some (.int .i64 d) ∧ wr.cell? ⟨w.heap.size, 1, none⟩ = some (.slice A xs.length cap) ∧ w.heap.size + 1 ≤ wr.heap.size ∧ Below w.heap.size w wr) (fun p _ => xs.length - (intOf p).toNat)
  case atStart =>
    refine ⟨0, Nat.zero_le _, rfl, rfl, ?_, ?_, ?_, by (repeat' (first | exact Below.refl _ _ | assumption | refine Below.setCell ?_ ?_ _ | refine Below.drew ?_ | refine Below.alloc ?_ ?_ _ | refine Below.trans ?_ (Below.mono (by assumption) ?_) | (simp; done) | (simp; omega) | omega))⟩
    all_goals first | (simp [go_sem, ↓IntWalk.iteOmega, *]; done) | (simp at *; omega)
  case round =>
    obtain ⟨k, hk, rfl, hme, hp0, hp1, hzz, hbr⟩ := hrel
    have hc := cellOf hbr
    have hf := frozOf hbr
    have hz := sizeOf hbr
    have HM := hid hme
    clear hme
    by_cases hlt : k < xs.length
    · obtain ⟨bx, ox, rfl, hbx, hcx⟩ := hx k xs[k] (List.getElem?_eq_getElem hlt)
      have hp0' : far wr w.heap.size 0 = _ := hp0
      have hp1' : far wr w.heap.size 1 = _ := hp1
      have hx0 := hcx 0 _ rfl
      have hx1 := hcx 1 _ rfl
      simp only [Nat.add_zero] at hx0
      have hxb := hok k hlt
      unfold ivP at hxb
      have HS := hid (any_snoc (hitI t d) xs k hlt)
      have HT := hid (fun e => any_hit (p := hitI t d) hlt e)
      clear hcx hx hok
      generalize xs[k] = x at *
      by_cases h1 : t ≤ x.2
      rotate_left
      · have HN := hid (show hitI t d x = false by simp [hitI, h1])
        clear HT
        go_wp2_with (fail)
        refine wp_region_w (n := 22) [] [] (FS56_6 d t x bx ox k xs.length cap w) rfl (by kernel_rfl) (fun _ _ d _ _ h => by cases d <;> exact h) ?_ ?_ ?_ ?_ ?_ ?_
        · intro iq
          match iq with
          | 0 | 1 | 2 | 3 | 4 | 5 | 6 | 7 | 8 | 9 | 10 | 11 | 12 | 13 | 14 | 15 | 16 | 17 | 18 | 19 | 20 | 21 => exact Stable.const _
          | n + 22 => exact Stable.const _
        · intro iq hi
          exact absurd hi (by simp)
        · intro iq hi
          exact absurd hi (by simp)
        · intro iq o hi hl ho vals w1 hb1 hf
          exact absurd hl (by simp)
        · intro iq o hi hl ho vals w1 hb1 hf
          match iq, hi with
          | 0, _ =>
            injection ho with ho
            subst ho
            clear hl
            simp only [fillA, List.take, List.drop, put_none, Act.put, List.setIfInBounds_toArray, List.set_cons_zero, List.set_cons_succ, Nat.reduceAdd]
            clear hf
            go_wp2_with (fail)
            exact RQ.mk rfl ⟨(by first | rfl | (simp [FS56_6]; done) | (simp [FS56_6, *]; done) | (simp [FS56_6, gotV]; done) | (simp [FS56_6, gotV]; omega)), fun h => absurd h (by decide)⟩ (Below.refl _ _)
          | 1, _ =>
            injection ho with ho
            subst ho
            clear hl
            simp only [fillA, List.take, List.drop, put_none, Act.put, List.setIfInBounds_toArray, List.set_cons_zero, List.set_cons_succ, Nat.reduceAdd]
            clear hf
            go_wp2_with (fail)
            exact RQ.mk rfl ⟨(by first | rfl | (simp [FS56_6]; done) | (simp [FS56_6, *]; done) | (simp [FS56_6, gotV]; done) | (simp [FS56_6, gotV]; omega)), fun h => absurd h (by decide)⟩ (Below.refl _ _)
          | 2, _ =>
            injection ho with ho
            subst ho
            clear hl
            simp only [fillA, List.take, List.drop, put_none, Act.put, List.setIfInBounds_toArray, List.set_cons_zero, List.set_cons_succ, Nat.reduceAdd]
            have f1 := hf 1 (by decide) (by kernel_rfl)
            generalize vals 1 = v1 at *
            subst f1
            clear hf
            have hc1 := cellOf hb1
            have hf1 := frozOf hb1
            have hz1 := sizeOf hb1
            try simp at hz1
            go_wp2_with (fail)
            exact RQ.mk rfl ⟨(by first | rfl | (simp [FS56_6]; done) | (simp [FS56_6, *]; done) | (simp [FS56_6, gotV]; done) | (simp [FS56_6, gotV]; omega)), fun h => absurd h (by decide)⟩ (Below.refl _ _)
          | 3, _ =>
            injection ho with ho
            subst ho
            clear hl
            simp only [fillA, List.take, List.drop, put_none, Act.put, List.setIfInBounds_toArray, List.set_cons_zero, List.set_cons_succ, Nat.reduceAdd]
            clear hf
            go_wp2_with (fail)
            exact RQ.mk rfl ⟨(by first | rfl | (simp [FS56_6]; done) | (simp [FS56_6, *]; done) | (simp [FS56_6, gotV]; done) | (simp [FS56_6, gotV]; omega)), fun h => absurd h (by decide)⟩ (Below.refl _ _)
          | 4, _ =>
            injection ho with ho
            subst ho
            clear hl
            simp only [fillA, List.take, List.drop, put_none, Act.put, List.setIfInBounds_toArray, List.set_cons_zero, List.set_cons_succ, Nat.reduceAdd]
            have f2 := hf 2 (by decide) (by kernel_rfl)
            generalize vals 2 = v2 at *
            subst f2
            have f3 := hf 3 (by decide) (by kernel_rfl)
            generalize vals 3 = v3 at *
            subst f3
            clear hf
            go_wp2_with (fail)
            exact RQ.mk rfl ⟨(by first | rfl | (simp [FS56_6]; done) | (simp [FS56_6, *]; done) | (simp [FS56_6, gotV]; done) | (simp [FS56_6, gotV]; omega)), fun h => absurd h (by decide)⟩ (Below.refl _ _)
          | 5, _ =>
            injection ho with ho
            subst ho
            clear hl
            simp only [fillA, List.take, List.drop, put_none, Act.put, List.setIfInBounds_toArray, List.set_cons_zero, List.set_cons_succ, Nat.reduceAdd]
            have f4 := hf 4 (by decide) (by kernel_rfl)
            generalize vals 4 = v4 at *
            subst f4
            clear hf
            go_wp2_with (fail)
            exact RQ.mk rfl ⟨(by first | rfl | (simp [FS56_6]; done) | (simp [FS56_6, *]; done) | (simp [FS56_6, gotV]; done) | (simp [FS56_6, gotV]; omega)), fun h => absurd h (by decide)⟩ (Below.refl _ _)
          | 6, _ =>
            injection ho with ho
            subst ho
            clear hl
            simp only [fillA, List.take, List.drop, put_none, Act.put, List.setIfInBounds_toArray, List.set_cons_zero, List.set_cons_succ, Nat.reduceAdd]
            have f5 := hf 5 (by decide) (by kernel_rfl)
            generalize vals 5 = v5 at *
            subst f5
            clear hf
            have hc1 := cellOf hb1
            have hf1 := frozOf hb1
            have hz1 := sizeOf hb1
            try simp at hz1
            go_wp2_with (fail)
            exact RQ.mk rfl ⟨(by first | rfl | (simp [FS56_6]; done) | (simp [FS56_6, *]; done) | (simp [FS56_6, gotV]; done) | (simp [FS56_6, gotV]; omega)), fun h => absurd h (by decide)⟩ (Below.refl _ _)
          | 7, _ =>
            injection ho with ho
            subst ho
            clear hl
            simp only [fillA, List.take, List.drop, put_none, Act.put, List.setIfInBounds_toArray, List.set_cons_zero, List.set_cons_succ, Nat.reduceAdd]
            have f0 := hf 0 (by decide) (by kernel_rfl)
            generalize vals 0 = v0 at *
            subst f0
            have f6 := hf 6 (by decide) (by kernel_rfl)
            generalize vals 6 = v6 at *
            subst f6
            clear hf
            go_wp2_with (fail)
            exact RQ.mk rfl ⟨(by first | rfl | (simp [FS56_6]; done) | (simp [FS56_6, *]; done) | (simp [FS56_6, gotV]; done) | (simp [FS56_6, gotV]; omega)), fun h => absurd h (by decide)⟩ (Below.refl _ _)
          | 8, _ =>
            injection ho with ho
            subst ho
            clear hl
            simp only [fillA, List.take, List.drop, put_none, Act.put, List.setIfInBounds_toArray, List.set_cons_zero, List.set_cons_succ, Nat.reduceAdd]
            have f7 := hf 7 (by decide) (by kernel_rfl)
            generalize vals 7 = v7 at *
            subst f7
            clear hf
            go_wp2_with (fail)
            exact RQ.mk rfl ⟨(by first | rfl | (simp [FS56_6]; done) | (simp [FS56_6, *]; done) | (simp [FS56_6, gotV]; done) | (simp [FS56_6, gotV]; omega)), fun h => absurd h (by decide)⟩ (Below.refl _ _)
          | 9, _ =>
            injection ho with ho
            subst ho
            clear hl
            simp only [fillA, List.take, List.drop, put_none, Act.put, List.setIfInBounds_toArray, List.set_cons_zero, List.set_cons_succ, Nat.reduceAdd]
            have f8 := hf 8 (by decide) (by kernel_rfl)
            generalize vals 8 = v8 at *
            subst f8
            clear hf
            go_wp2_with (fail)
            exact RQ.mk rfl ⟨(by first | rfl | (simp [FS56_6]; done) | (simp [FS56_6, *]; done) | (simp [FS56_6, gotV]; done) | (simp [FS56_6, gotV]; omega)), fun h => absurd h (by decide)⟩ (Below.refl _ _)
          | 10, _ =>
            injection ho with ho
            subst ho
            clear hl
            simp only [fillA, List.take, List.drop, put_none, Act.put, List.setIfInBounds_toArray, List.set_cons_zero, List.set_cons_succ, Nat.reduceAdd]
            have f9 := hf 9 (by decide) (by kernel_rfl)
            generalize vals 9 = v9 at *
            subst f9
            have f8 := hf 8 (by decide) (by kernel_rfl)
            generalize vals 8 = v8 at *
            subst f8
            clear hf
            go_wp2_with (fail)
            exact RQ.mk rfl ⟨(by first | rfl | (simp [FS56_6]; done) | (simp [FS56_6, *]; done) | (simp [FS56_6, gotV]; done) | (simp [FS56_6, gotV]; omega)), fun h => absurd h (by decide)⟩ (Below.refl _ _)
          | 11, _ =>
            injection ho with ho
            subst ho
            clear hl
            simp only [fillA, List.take, List.drop, put_none, Act.put, List.setIfInBounds_toArray, List.set_cons_zero, List.set_cons_succ, Nat.reduceAdd]
            have f8 := hf 8 (by decide) (by kernel_rfl)
            generalize vals 8 = v8 at *
            subst f8
            clear hf
            go_wp2_with (fail)
            exact RQ.mk rfl ⟨(by first | rfl | (simp [FS56_6]; done) | (simp [FS56_6, *]; done) | (simp [FS56_6, gotV]; done) | (simp [FS56_6, gotV]; omega)), fun h => absurd h (by decide)⟩ (Below.refl _ _)
          | 12, _ =>
            injection ho with ho
            subst ho
            clear hl
            simp only [fillA, List.take, List.drop, put_none, Act.put, List.setIfInBounds_toArray, List.set_cons_zero, List.set_cons_succ, Nat.reduceAdd]
            have f10 := hf 10 (by decide) (by kernel_rfl)
            generalize vals 10 = v10 at *
            subst f10
            have f11 := hf 11 (by decide) (by kernel_rfl)
            generalize vals 11 = v11 at *
            subst f11
            have f8 := hf 8 (by decide) (by kernel_rfl)
            generalize vals 8 = v8 at *
            subst f8
            clear hf
            go_wp2_with (fail)
            exact RQ.mk rfl ⟨(by first | rfl | (simp [FS56_6]; done) | (simp [FS56_6, *]; done) | (simp [FS56_6, gotV]; done) | (simp [FS56_6, gotV]; omega)), fun h => absurd h (by decide)⟩ (Below.refl _ _)
          | 13, _ =>
            injection ho with ho
            subst ho
            clear hl
            simp only [fillA, List.take, List.drop, put_none, Act.put, List.setIfInBounds_toArray, List.set_cons_zero, List.set_cons_succ, Nat.reduceAdd]
            have f12 := hf 12 (by decide) (by kernel_rfl)
            generalize vals 12 = v12 at *
            subst f12
            have f8 := hf 8 (by decide) (by kernel_rfl)
            generalize vals 8 = v8 at *
            subst f8
            clear hf
            go_wp2_with (fail)
            exact RQ.mk rfl ⟨(by first | rfl | (simp [FS56_6]; done) | (simp [FS56_6, *]; done) | (simp [FS56_6, gotV]; done) | (simp [FS56_6, gotV]; omega)), fun h => absurd h (by decide)⟩ (Below.refl _ _)
          | 14, _ =>
            injection ho with ho
            subst ho
            clear hl
            simp only [fillA, List.take, List.drop, put_none, Act.put, List.setIfInBounds_toArray, List.set_cons_zero, List.set_cons_succ, Nat.reduceAdd]
            have f13 := hf 13 (by decide) (by kernel_rfl)
            generalize vals 13 = v13 at *
            subst f13
            have f8 := hf 8 (by decide) (by kernel_rfl)
            generalize vals 8 = v8 at *
            subst f8
            clear hf
            go_wp2_with (fail)
            exact RQ.mk rfl ⟨(by first | rfl | (simp [FS56_6]; done) | (simp [FS56_6, *]; done) | (simp [FS56_6, gotV]; done) | (simp [FS56_6, gotV]; omega)), fun h => absurd h (by decide)⟩ (Below.refl _ _)
          | 15, _ =>
            injection ho with ho
            subst ho
            clear hl
            simp only [fillA, List.take, List.drop, put_none, Act.put, List.setIfInBounds_toArray, List.set_cons_zero, List.set_cons_succ, Nat.reduceAdd]
            have f8 := hf 8 (by decide) (by kernel_rfl)
            generalize vals 8 = v8 at *
            subst f8
            clear hf
            go_wp2_with (fail)
            exact RQ.mk rfl ⟨(by first | rfl | (simp [FS56_6]; done) | (simp [FS56_6, *]; done) | (simp [FS56_6, gotV]; done) | (simp [FS56_6, gotV]; omega)), fun h => absurd h (by decide)⟩ (Below.refl _ _)
          | 16, _ =>
            injection ho with ho
            subst ho
            clear hl
            simp only [fillA, List.take, List.drop, put_none, Act.put, List.setIfInBounds_toArray, List.set_cons_zero, List.set_cons_succ, Nat.reduceAdd]
            have f8 := hf 8 (by decide) (by kernel_rfl)
            generalize vals 8 = v8 at *
            subst f8
            clear hf
            go_wp2_with (fail)
            exact RQ.mk rfl ⟨(by first | rfl | (simp [FS56_6]; done) | (simp [FS56_6, *]; done) | (simp [FS56_6, gotV]; done) | (simp [FS56_6, gotV]; omega)), fun h => absurd h (by decide)⟩ (Below.refl _ _)
          | 17, _ =>
            injection ho with ho
            subst ho
            clear hl
            simp only [fillA, List.take, List.drop, put_none, Act.put, List.setIfInBounds_toArray, List.set_cons_zero, List.set_cons_succ, Nat.reduceAdd]
            have f16 := hf 16 (by decide) (by kernel_rfl)
            generalize vals 16 = v16 at *
            subst f16
            have f8 := hf 8 (by decide) (by kernel_rfl)
            generalize vals 8 = v8 at *
            subst f8
            clear hf
            go_wp2_with (fail)
            exact RQ.mk rfl ⟨(by first | rfl | (simp [FS56_6]; done) | (simp [FS56_6, *]; done) | (simp [FS56_6, gotV]; done) | (simp [FS56_6, gotV]; omega)), fun h => absurd h (by decide)⟩ (Below.refl _ _)
          | 18, _ =>
            injection ho with ho
            subst ho
            clear hl
            simp only [fillA, List.take, List.drop, put_none, Act.put, List.setIfInBounds_toArray, List.set_cons_zero, List.set_cons_succ, Nat.reduceAdd]
            have f15 := hf 15 (by decide) (by kernel_rfl)
            generalize vals 15 = v15 at *
            subst f15
            have f17 := hf 17 (by decide) (by kernel_rfl)
            generalize vals 17 = v17 at *
            subst f17
            have f8 := hf 8 (by decide) (by kernel_rfl)
            generalize vals 8 = v8 at *
            subst f8
            clear hf
            go_wp2_with (fail)
            exact RQ.mk rfl ⟨(by first | rfl | (simp [FS56_6]; done) | (simp [FS56_6, *]; done) | (simp [FS56_6, gotV]; done) | (simp [FS56_6, gotV]; omega)), fun h => absurd h (by decide)⟩ (Below.refl _ _)
          | 19, _ =>
            injection ho with ho
            subst ho
            clear hl
            simp only [fillA, List.take, List.drop, put_none, Act.put, List.setIfInBounds_toArray, List.set_cons_zero, List.set_cons_succ, Nat.reduceAdd]
            have f18 := hf 18 (by decide) (by kernel_rfl)
            generalize vals 18 = v18 at *
            subst f18
            have f8 := hf 8 (by decide) (by kernel_rfl)
            generalize vals 8 = v8 at *
            subst f8
            clear hf
            go_wp2_with (fail)
            exact RQ.mk rfl ⟨(by first | rfl | (simp [FS56_6]; done) | (simp [FS56_6, *]; done) | (simp [FS56_6, gotV]; done) | (simp [FS56_6, gotV]; omega)), fun h => absurd h (by decide)⟩ (Below.refl _ _)
          | 20, _ =>
            injection ho with ho
            subst ho
            clear hl
            simp only [fillA, List.take, List.drop, put_none, Act.put, List.setIfInBounds_toArray, List.set_cons_zero, List.set_cons_succ, Nat.reduceAdd]
            have f14 := hf 14 (by decide) (by kernel_rfl)
            generalize vals 14 = v14 at *
            subst f14
            have f19 := hf 19 (by decide) (by kernel_rfl)
            generalize vals 19 = v19 at *
            subst f19
            have f8 := hf 8 (by decide) (by kernel_rfl)
            generalize vals 8 = v8 at *
            subst f8
            clear hf
            go_wp2_with (fail)
            exact RQ.mk rfl ⟨(by first | rfl | (simp [FS56_6]; done) | (simp [FS56_6, *]; done) | (simp [FS56_6, gotV]; done) | (simp [FS56_6, gotV]; omega)), fun h => absurd h (by decide)⟩ (Below.refl _ _)
          | 21, _ =>
            injection ho with ho
            subst ho
            clear hl
            simp only [fillA, List.take, List.drop, put_none, Act.put, List.setIfInBounds_toArray, List.set_cons_zero, List.set_cons_succ, Nat.reduceAdd]
            have f8 := hf 8 (by decide) (by kernel_rfl)
            generalize vals 8 = v8 at *
            subst f8
            have f20 := hf 20 (by decide) (by kernel_rfl)
            generalize vals 20 = v20 at *
            subst f20
            clear hf
            go_wp2_with (fail)
            exact RQ.mk rfl ⟨(by first | rfl | (simp [FS56_6]; done) | (simp [FS56_6, *]; done) | (simp [FS56_6, gotV]; done) | (simp [FS56_6, gotV]; omega)), fun h => absurd h (by decide)⟩ (Below.refl _ _)
          | m + 22, h => exact absurd h (by omega)
        · intro vals w1 hb1 hf hd
          simp only [fillA, List.take, List.drop, put_none, Act.put, List.setIfInBounds_toArray, List.set_cons_zero, List.set_cons_succ, Nat.reduceAdd]
          clear hd
          have f0 := hf 0 (by decide)
          generalize vals 0 = v0 at *
          subst f0
          have f1 := hf 1 (by decide)
          generalize vals 1 = v1 at *
          subst f1
          have f2 := hf 2 (by decide)
          generalize vals 2 = v2 at *
          subst f2
          have f3 := hf 3 (by decide)
          generalize vals 3 = v3 at *
          subst f3
          have f4 := hf 4 (by decide)
          generalize vals 4 = v4 at *
          subst f4
          have f5 := hf 5 (by decide)
          generalize vals 5 = v5 at *
          subst f5
          have f6 := hf 6 (by decide)
          generalize vals 6 = v6 at *
          subst f6
          have f7 := hf 7 (by decide)
          generalize vals 7 = v7 at *
          subst f7
          have f8 := hf 8 (by decide)
          generalize vals 8 = v8 at *
          subst f8
          have f9 := hf 9 (by decide)
          generalize vals 9 = v9 at *
          subst f9
          have f10 := hf 10 (by decide)
          generalize vals 10 = v10 at *
          subst f10
          have f11 := hf 11 (by decide)
          generalize vals 11 = v11 at *
          subst f11
          have f12 := hf 12 (by decide)
          generalize vals 12 = v12 at *
          subst f12
          have f13 := hf 13 (by decide)
          generalize vals 13 = v13 at *
          subst f13
          have f14 := hf 14 (by decide)
          generalize vals 14 = v14 at *
          subst f14
          have f15 := hf 15 (by decide)
          generalize vals 15 = v15 at *
          subst f15
          have f16 := hf 16 (by decide)
          generalize vals 16 = v16 at *
          subst f16
          have f17 := hf 17 (by decide)
          generalize vals 17 = v17 at *
          subst f17
          have f18 := hf 18 (by decide)
          generalize vals 18 = v18 at *
          subst f18
          have f19 := hf 19 (by decide)
          generalize vals 19 = v19 at *
          subst f19
          have f20 := hf 20 (by decide)
          generalize vals 20 = v20 at *
          subst f20
          have f21 := hf 21 (by decide)
          generalize vals 21 = v21 at *
          subst f21
          clear hf
          have hc1 := cellOf hb1
          have hf1 := frozOf hb1
          have hz1 := sizeOf hb1
          try simp at hz1
          go_wp2_with (fail)
          go_roundw
          case rel =>
            refine ⟨k + 1, by omega, by go_num, by rw [HS.out, HM.out, HN.out]; rfl, ?_, ?_, ?_, by (repeat' (first | exact Below.refl _ _ | assumption | refine Below.setCell ?_ ?_ _ | refine Below.drew ?_ | refine Below.alloc ?_ ?_ _ | refine Below.trans ?_ (Below.mono (by assumption) ?_) | (simp; done) | (simp; omega) | omega))⟩
            all_goals first | (simp [go_sem, ↓IntWalk.iteOmega, *]; done) | omega | (simp [go_sem, ↓IntWalk.iteOmega, *]; omega)
          case measure => simp [intOf]; omega
      by_cases h2 : x.1 ≤ t + d - 1
      rotate_left
      · have HN := hid (show hitI t d x = false by simp [hitI, h2])
        clear HT
        go_wp2_with (fail)
        refine wp_region_w (n := 22) [] [] (FS56_6_12 d t x bx ox k xs.length cap w) rfl (by kernel_rfl) (fun _ _ d _ _ h => by cases d <;> exact h) ?_ ?_ ?_ ?_ ?_ ?_
        · intro iq
          match iq with
          | 0 | 1 | 2 | 3 | 4 | 5 | 6 | 7 | 8 | 9 | 10 | 11 | 12 | 13 | 14 | 15 | 16 | 17 | 18 | 19 | 20 | 21 => exact Stable.const _
          | n + 22 => exact Stable.const _
        · intro iq hi
          exact absurd hi (by simp)
        · intro iq hi
          exact absurd hi (by simp)
        · intro iq o hi hl ho vals w1 hb1 hf
          exact absurd hl (by simp)
        · intro iq o hi hl ho vals w1 hb1 hf
          match iq, hi with
          | 0, _ =>
            injection ho with ho
            subst ho
            clear hl
            simp only [fillA, List.take, List.drop, put_none, Act.put, List.setIfInBounds_toArray, List.set_cons_zero, List.set_cons_succ, Nat.reduceAdd]
            clear hf
            go_wp2_with (fail)
            exact RQ.mk rfl ⟨(by first | rfl | (simp [FS56_6_12]; done) | (simp [FS56_6_12, *]; done) | (simp [FS56_6_12, gotV]; done) | (simp [FS56_6_12, gotV]; omega)), fun h => absurd h (by decide)⟩ (Below.refl _ _)
          | 1, _ =>
            injection ho with ho
            subst ho
            clear hl
            simp only [fillA, List.take, List.drop, put_none, Act.put, List.setIfInBounds_toArray, List.set_cons_zero, List.set_cons_succ, Nat.reduceAdd]
            clear hf
            go_wp2_with (fail)
            exact RQ.mk rfl ⟨(by first | rfl | (simp [FS56_6_12]; done) | (simp [FS56_6_12, *]; done) | (simp [FS56_6_12, gotV]; done) | (simp [FS56_6_12, gotV]; omega)), fun h => absurd h (by decide)⟩ (Below.refl _ _)
          | 2, _ =>
            injection ho with ho
            subst ho
            clear hl
            simp only [fillA, List.take, List.drop, put_none, Act.put, List.setIfInBounds_toArray, List.set_cons_zero, List.set_cons_succ, Nat.reduceAdd]
            have f1 := hf 1 (by decide) (by kernel_rfl)
            generalize vals 1 = v1 at *
            subst f1
            clear hf
            have hc1 := cellOf hb1
            have hf1 := frozOf hb1
            have hz1 := sizeOf hb1
            try simp at hz1
            go_wp2_with (fail)
            exact RQ.mk rfl ⟨(by first | rfl | (simp [FS56_6_12]; done) | (simp [FS56_6_12, *]; done) | (simp [FS56_6_12, gotV]; done) | (simp [FS56_6_12, gotV]; omega)), fun h => absurd h (by decide)⟩ (Below.refl _ _)
          | 3, _ =>
            injection ho with ho
            subst ho
            clear hl
            simp only [fillA, List.take, List.drop, put_none, Act.put, List.setIfInBounds_toArray, List.set_cons_zero, List.set_cons_succ, Nat.reduceAdd]
            clear hf
            go_wp2_with (fail)
            exact RQ.mk rfl ⟨(by first | rfl | (simp [FS56_6_12]; done) | (simp [FS56_6_12, *]; done) | (simp [FS56_6_12, gotV]; done) | (simp [FS56_6_12, gotV]; omega)), fun h => absurd h (by decide)⟩ (Below.refl _ _)
          | 4, _ =>
            injection ho with ho
            subst ho
            clear hl
            simp only [fillA, List.take, List.drop, put_none, Act.put, List.setIfInBounds_toArray, List.set_cons_zero, List.set_cons_succ, Nat.reduceAdd]
            have f2 := hf 2 (by decide) (by kernel_rfl)
            generalize vals 2 = v2 at *
            subst f2
            have f3 := hf 3 (by decide) (by kernel_rfl)
            generalize vals 3 = v3 at *
            subst f3
            clear hf
            go_wp2_with (fail)
            exact RQ.mk rfl ⟨(by first | rfl | (simp [FS56_6_12]; done) | (simp [FS56_6_12, *]; done) | (simp [FS56_6_12, gotV]; done) | (simp [FS56_6_12, gotV]; omega)), fun h => absurd h (by decide)⟩ (Below.refl _ _)
          | 5, _ =>
            injection ho with ho
            subst ho
            clear hl
            simp only [fillA, List.take, List.drop, put_none, Act.put, List.setIfInBounds_toArray, List.set_cons_zero, List.set_cons_succ, Nat.reduceAdd]
            have f4 := hf 4 (by decide) (by kernel_rfl)
            generalize vals 4 = v4 at *
            subst f4
            clear hf
            go_wp2_with (fail)
            exact RQ.mk rfl ⟨(by first | rfl | (simp [FS56_6_12]; done) | (simp [FS56_6_12, *]; done) | (simp [FS56_6_12, gotV]; done) | (simp [FS56_6_12, gotV]; omega)), fun h => absurd h (by decide)⟩ (Below.refl _ _)
          | 6, _ =>
            injection ho with ho
            subst ho
            clear hl
            simp only [fillA, List.take, List.drop, put_none, Act.put, List.setIfInBounds_toArray, List.set_cons_zero, List.set_cons_succ, Nat.reduceAdd]
            have f5 := hf 5 (by decide) (by kernel_rfl)
            generalize vals 5 = v5 at *
            subst f5
            clear hf
            have hc1 := cellOf hb1
            have hf1 := frozOf hb1
            have hz1 := sizeOf hb1
            try simp at hz1
            go_wp2_with (fail)
            exact RQ.mk rfl ⟨(by first | rfl | (simp [FS56_6_12]; done) | (simp [FS56_6_12, *]; done) | (simp [FS56_6_12, gotV]; done) | (simp [FS56_6_12, gotV]; omega)), fun h => absurd h (by decide)⟩ (Below.refl _ _)
          | 7, _ =>
            injection ho with ho
            subst ho
            clear hl
            simp only [fillA, List.take, List.drop, put_none, Act.put, List.setIfInBounds_toArray, List.set_cons_zero, List.set_cons_succ, Nat.reduceAdd]
            have f0 := hf 0 (by decide) (by kernel_rfl)
            generalize vals 0 = v0 at *
            subst f0
            have f6 := hf 6 (by decide) (by kernel_rfl)
            generalize vals 6 = v6 at *
            subst f6
            clear hf
            go_wp2_with (fail)
            exact RQ.mk rfl ⟨(by first | rfl | (simp [FS56_6_12]; done) | (simp [FS56_6_12, *]; done) | (simp [FS56_6_12, gotV]; done) | (simp [FS56_6_12, gotV]; omega)), fun h => absurd h (by decide)⟩ (Below.refl _ _)
          | 8, _ =>
            injection ho with ho
            subst ho
            clear hl
            simp only [fillA, List.take, List.drop, put_none, Act.put, List.setIfInBounds_toArray, List.set_cons_zero, List.set_cons_succ, Nat.reduceAdd]
            have f7 := hf 7 (by decide) (by kernel_rfl)
            generalize vals 7 = v7 at *
            subst f7
            clear hf
            go_wp2_with (fail)
            exact RQ.mk rfl ⟨(by first | rfl | (simp [FS56_6_12]; done) | (simp [FS56_6_12, *]; done) | (simp [FS56_6_12, gotV]; done) | (simp [FS56_6_12, gotV]; omega)), fun h => absurd h (by decide)⟩ (Below.refl _ _)
          | 9, _ =>
            injection ho with ho
            subst ho
            clear hl
            simp only [fillA, List.take, List.drop, put_none, Act.put, List.setIfInBounds_toArray, List.set_cons_zero, List.set_cons_succ, Nat.reduceAdd]
            have f8 := hf 8 (by decide) (by kernel_rfl)
            generalize vals 8 = v8 at *
            subst f8
            clear hf
            go_wp2_with (fail)
            exact RQ.mk rfl ⟨(by first | rfl | (simp [FS56_6_12]; done) | (simp [FS56_6_12, *]; done) | (simp [FS56_6_12, gotV]; done) | (simp [FS56_6_12, gotV]; omega)), fun h => absurd h (by decide)⟩ (Below.refl _ _)
          | 10, _ =>
            injection ho with ho
            subst ho
            clear hl
            simp only [fillA, List.take, List.drop, put_none, Act.put, List.setIfInBounds_toArray, List.set_cons_zero, List.set_cons_succ, Nat.reduceAdd]
            have f9 := hf 9 (by decide) (by kernel_rfl)
            generalize vals 9 = v9 at *
            subst f9
            have f8 := hf 8 (by decide) (by kernel_rfl)
            generalize vals 8 = v8 at *
            subst f8
            clear hf
            have hc1 := cellOf hb1
            have hf1 := frozOf hb1
            have hz1 := sizeOf hb1
            try simp at hz1
            go_wp2_with (fail)
            exact RQ.mk rfl ⟨(by first | rfl | (simp [FS56_6_12]; done) | (simp [FS56_6_12, *]; done) | (simp [FS56_6_12, gotV]; done) | (simp [FS56_6_12, gotV]; omega)), fun h => absurd h (by decide)⟩ (Below.refl _ _)
          | 11, _ =>
            injection ho with ho
            subst ho
            clear hl
            simp only [fillA, List.take, List.drop, put_none, Act.put, List.setIfInBounds_toArray, List.set_cons_zero, List.set_cons_succ, Nat.reduceAdd]
            have f8 := hf 8 (by decide) (by kernel_rfl)
            generalize vals 8 = v8 at *
            subst f8
            clear hf
            go_wp2_with (fail)
            exact RQ.mk rfl ⟨(by first | rfl | (simp [FS56_6_12]; done) | (simp [FS56_6_12, *]; done) | (simp [FS56_6_12, gotV]; done) | (simp [FS56_6_12, gotV]; omega)), fun h => absurd h (by decide)⟩ (Below.refl _ _)
          | 12, _ =>
            injection ho with ho
            subst ho
            clear hl
            simp only [fillA, List.take, List.drop, put_none, Act.put, List.setIfInBounds_toArray, List.set_cons_zero, List.set_cons_succ, Nat.reduceAdd]
            have f10 := hf 10 (by decide) (by kernel_rfl)
            generalize vals 10 = v10 at *
            subst f10
            have f11 := hf 11 (by decide) (by kernel_rfl)
            generalize vals 11 = v11 at *
            subst f11
            have f8 := hf 8 (by decide) (by kernel_rfl)
            generalize vals 8 = v8 at *
            subst f8
            clear hf
            go_wp2_with (fail)
            exact RQ.mk rfl ⟨(by first | rfl | (simp [FS56_6_12]; done) | (simp [FS56_6_12, *]; done) | (simp [FS56_6_12, gotV]; done) | (simp [FS56_6_12, gotV]; omega)), fun h => absurd h (by decide)⟩ (Below.refl _ _)
          | 13, _ =>
            injection ho with ho
            subst ho
            clear hl
            simp only [fillA, List.take, List.drop, put_none, Act.put, List.setIfInBounds_toArray, List.set_cons_zero, List.set_cons_succ, Nat.reduceAdd]
            have f12 := hf 12 (by decide) (by kernel_rfl)
            generalize vals 12 = v12 at *
            subst f12
            have f8 := hf 8 (by decide) (by kernel_rfl)
            generalize vals 8 = v8 at *
            subst f8
            clear hf
            go_wp2_with (fail)
            exact RQ.mk rfl ⟨(by first | rfl | (simp [FS56_6_12]; done) | (simp [FS56_6_12, *]; done) | (simp [FS56_6_12, gotV]; done) | (simp [FS56_6_12, gotV]; omega)), fun h => absurd h (by decide)⟩ (Below.refl _ _)
          | 14, _ =>
            injection ho with ho
            subst ho
            clear hl
            simp only [fillA, List.take, List.drop, put_none, Act.put, List.setIfInBounds_toArray, List.set_cons_zero, List.set_cons_succ, Nat.reduceAdd]
            have f13 := hf 13 (by decide) (by kernel_rfl)
            generalize vals 13 = v13 at *
            subst f13
            have f8 := hf 8 (by decide) (by kernel_rfl)
            generalize vals 8 = v8 at *
            subst f8
            clear hf
            have hc1 := cellOf hb1
            have hf1 := frozOf hb1
            have hz1 := sizeOf hb1
            try simp at hz1
            go_wp2_with (fail)
            exact RQ.mk rfl ⟨(by first | rfl | (simp [FS56_6_12]; done) | (simp [FS56_6_12, *]; done) | (simp [FS56_6_12, gotV]; done) | (simp [FS56_6_12, gotV]; omega)), fun h => absurd h (by decide)⟩ (Below.refl _ _)
          | 15, _ =>
            injection ho with ho
            subst ho
            clear hl
            simp only [fillA, List.take, List.drop, put_none, Act.put, List.setIfInBounds_toArray, List.set_cons_zero, List.set_cons_succ, Nat.reduceAdd]
            have f8 := hf 8 (by decide) (by kernel_rfl)
            generalize vals 8 = v8 at *
            subst f8
            clear hf
            go_wp2_with (fail)
            exact RQ.mk rfl ⟨(by first | rfl | (simp [FS56_6_12]; done) | (simp [FS56_6_12, *]; done) | (simp [FS56_6_12, gotV]; done) | (simp [FS56_6_12, gotV]; omega)), fun h => absurd h (by decide)⟩ (Below.refl _ _)
          | 16, _ =>
            injection ho with ho
            subst ho
            clear hl
            simp only [fillA, List.take, List.drop, put_none, Act.put, List.setIfInBounds_toArray, List.set_cons_zero, List.set_cons_succ, Nat.reduceAdd]
            have f8 := hf 8 (by decide) (by kernel_rfl)
            generalize vals 8 = v8 at *
            subst f8
            clear hf
            go_wp2_with (fail)
            exact RQ.mk rfl ⟨(by first | rfl | (simp [FS56_6_12]; done) | (simp [FS56_6_12, *]; done) | (simp [FS56_6_12, gotV]; done) | (simp [FS56_6_12, gotV]; omega)), fun h => absurd h (by decide)⟩ (Below.refl _ _)
          | 17, _ =>
            injection ho with ho
            subst ho
            clear hl
            simp only [fillA, List.take, List.drop, put_none, Act.put, List.setIfInBounds_toArray, List.set_cons_zero, List.set_cons_succ, Nat.reduceAdd]
            have f16 := hf 16 (by decide) (by kernel_rfl)
            generalize vals 16 = v16 at *
            subst f16
            have f8 := hf 8 (by decide) (by kernel_rfl)
            generalize vals 8 = v8 at *
            subst f8
            clear hf
            have hc1 := cellOf hb1
            have hf1 := frozOf hb1
            have hz1 := sizeOf hb1
            try simp at hz1
            go_wp2_with (fail)
            exact RQ.mk rfl ⟨(by first | rfl | (simp [FS56_6_12]; done) | (simp [FS56_6_12, *]; done) | (simp [FS56_6_12, gotV]; done) | (simp [FS56_6_12, gotV]; omega)), fun h => absurd h (by decide)⟩ (Below.refl _ _)
          | 18, _ =>
            injection ho with ho
            subst ho
            clear hl
            simp only [fillA, List.take, List.drop, put_none, Act.put, List.setIfInBounds_toArray, List.set_cons_zero, List.set_cons_succ, Nat.reduceAdd]
            have f15 := hf 15 (by decide) (by kernel_rfl)
            generalize vals 15 = v15 at *
            subst f15
            have f17 := hf 17 (by decide) (by kernel_rfl)
            generalize vals 17 = v17 at *
            subst f17
            have f8 := hf 8 (by decide) (by kernel_rfl)
            generalize vals 8 = v8 at *
            subst f8
            clear hf
            go_wp2_with (fail)
            exact RQ.mk rfl ⟨(by first | rfl | (simp [FS56_6_12]; done) | (simp [FS56_6_12, *]; done) | (simp [FS56_6_12, gotV]; done) | (simp [FS56_6_12, gotV]; omega)), fun h => absurd h (by decide)⟩ (Below.refl _ _)
          | 19, _ =>
            injection ho with ho
            subst ho
            clear hl
            simp only [fillA, List.take, List.drop, put_none, Act.put, List.setIfInBounds_toArray, List.set_cons_zero, List.set_cons_succ, Nat.reduceAdd]
            have f18 := hf 18 (by decide) (by kernel_rfl)
            generalize vals 18 = v18 at *
            subst f18
            have f8 := hf 8 (by decide) (by kernel_rfl)
            generalize vals 8 = v8 at *
            subst f8
            clear hf
            go_wp2_with (fail)
            exact RQ.mk rfl ⟨(by first | rfl | (simp [FS56_6_12]; done) | (simp [FS56_6_12, *]; done) | (simp [FS56_6_12, gotV]; done) | (simp [FS56_6_12, gotV]; omega)), fun h => absurd h (by decide)⟩ (Below.refl _ _)
          | 20, _ =>
            injection ho with ho
            subst ho
            clear hl
            simp only [fillA, List.take, List.drop, put_none, Act.put, List.setIfInBounds_toArray, List.set_cons_zero, List.set_cons_succ, Nat.reduceAdd]
            have f14 := hf 14 (by decide) (by kernel_rfl)
            generalize vals 14 = v14 at *
            subst f14
            have f19 := hf 19 (by decide) (by kernel_rfl)
            generalize vals 19 = v19 at *
            subst f19
            have f8 := hf 8 (by decide) (by kernel_rfl)
            generalize vals 8 = v8 at *
            subst f8
            clear hf
            go_wp2_with (fail)
            exact RQ.mk rfl ⟨(by first | rfl | (simp [FS56_6_12]; done) | (simp [FS56_6_12, *]; done) | (simp [FS56_6_12, gotV]; done) | (simp [FS56_6_12, gotV]; omega)), fun h => absurd h (by decide)⟩ (Below.refl _ _)
          | 21, _ =>
            injection ho with ho
            subst ho
            clear hl
            simp only [fillA, List.take, List.drop, put_none, Act.put, List.setIfInBounds_toArray, List.set_cons_zero, List.set_cons_succ, Nat.reduceAdd]
            have f8 := hf 8 (by decide) (by kernel_rfl)
            generalize vals 8 = v8 at *
            subst f8
            have f20 := hf 20 (by decide) (by kernel_rfl)
            generalize vals 20 = v20 at *
            subst f20
            clear hf
            go_wp2_with (fail)
            exact RQ.mk rfl ⟨(by first | rfl | (simp [FS56_6_12]; done) | (simp [FS56_6_12, *]; done) | (simp [FS56_6_12, gotV]; done) | (simp [FS56_6_12, gotV]; omega)), fun h => absurd h (by decide)⟩ (Below.refl _ _)
          | m + 22, h => exact absurd h (by omega)
        · intro vals w1 hb1 hf hd
          simp only [fillA, List.take, List.drop, put_none, Act.put, List.setIfInBounds_toArray, List.set_cons_zero, List.set_cons_succ, Nat.reduceAdd]
          clear hd
          have f0 := hf 0 (by decide)
          generalize vals 0 = v0 at *
          subst f0
          have f1 := hf 1 (by decide)
          generalize vals 1 = v1 at *
          subst f1
          have f2 := hf 2 (by decide)
          generalize vals 2 = v2 at *
          subst f2
          have f3 := hf 3 (by decide)
          generalize vals 3 = v3 at *
          subst f3
          have f4 := hf 4 (by decide)
          generalize vals 4 = v4 at *
          subst f4
          have f5 := hf 5 (by decide)
          generalize vals 5 = v5 at *
          subst f5
          have f6 := hf 6 (by decide)
          generalize vals 6 = v6 at *
          subst f6
          have f7 := hf 7 (by decide)
          generalize vals 7 = v7 at *
          subst f7
          have f8 := hf 8 (by decide)
          generalize vals 8 = v8 at *
          subst f8
          have f9 := hf 9 (by decide)
          generalize vals 9 = v9 at *
          subst f9
          have f10 := hf 10 (by decide)
          generalize vals 10 = v10 at *
          subst f10
          have f11 := hf 11 (by decide)
          generalize vals 11 = v11 at *
          subst f11
          have f12 := hf 12 (by decide)
          generalize vals 12 = v12 at *
          subst f12
          have f13 := hf 13 (by decide)
          generalize vals 13 = v13 at *
          subst f13
          have f14 := hf 14 (by decide)
          generalize vals 14 = v14 at *
          subst f14
          have f15 := hf 15 (by decide)
          generalize vals 15 = v15 at *
          subst f15
          have f16 := hf 16 (by decide)
          generalize vals 16 = v16 at *
          subst f16
          have f17 := hf 17 (by decide)
          generalize vals 17 = v17 at *
          subst f17
          have f18 := hf 18 (by decide)
          generalize vals 18 = v18 at *
          subst f18
          have f19 := hf 19 (by decide)
          generalize vals 19 = v19 at *
          subst f19
          have f20 := hf 20 (by decide)
          generalize vals 20 = v20 at *
          subst f20
          have f21 := hf 21 (by decide)
          generalize vals 21 = v21 at *
          subst f21
          clear hf
          have hc1 := cellOf hb1
          have hf1 := frozOf hb1
          have hz1 := sizeOf hb1
          try simp at hz1
          go_wp2_with (fail)
          go_roundw
          case rel =>
            refine ⟨k + 1, by omega, by go_num, by rw [HS.out, HM.out, HN.out]; rfl, ?_, ?_, ?_, by (repeat' (first | exact Below.refl _ _ | assumption | refine Below.setCell ?_ ?_ _ | refine Below.drew ?_ | refine Below.alloc ?_ ?_ _ | refine Below.trans ?_ (Below.mono (by assumption) ?_) | (simp; done) | (simp; omega) | omega))⟩
            all_goals first | (simp [go_sem, ↓IntWalk.iteOmega, *]; done) | omega | (simp [go_sem, ↓IntWalk.iteOmega, *]; omega)
          case measure => simp [intOf]; omega
      have HV := hid (show mayB d xs t = false by unfold mayB; rw [HT.out (by simp [hitI, h1, h2])]; simp)
      clear HT
      go_wp2_with (fail)
      refine wp_region_w (n := 22) [] [] (FS56_6_13 d t x bx ox k xs.length cap w) rfl (by kernel_rfl) (fun _ _ d _ _ h => by cases d <;> exact h) ?_ ?_ ?_ ?_ ?_ ?_
      · intro iq
        match iq with
        | 0 | 1 | 2 | 3 | 4 | 5 | 6 | 7 | 8 | 9 | 10 | 11 | 12 | 13 | 14 | 15 | 16 | 17 | 18 | 19 | 20 | 21 => exact Stable.const _
        | n + 22 => exact Stable.const _
      · intro iq hi
        exact absurd hi (by simp)
      · intro iq hi
        exact absurd hi (by simp)
      · intro iq o hi hl ho vals w1 hb1 hf
        exact absurd hl (by simp)
      · intro iq o hi hl ho vals w1 hb1 hf
        match iq, hi with
        | 0, _ =>
          injection ho with ho
          subst ho
          clear hl
          simp only [fillA, List.take, List.drop, put_none, Act.put, List.setIfInBounds_toArray, List.set_cons_zero, List.set_cons_succ, Nat.reduceAdd]
          clear hf
          go_wp2_with (fail)
          exact RQ.mk rfl ⟨(by first | rfl | (simp [FS56_6_13]; done) | (simp [FS56_6_13, *]; done) | (simp [FS56_6_13, gotV]; done) | (simp [FS56_6_13, gotV]; omega)), fun h => absurd h (by decide)⟩ (Below.refl _ _)
        | 1, _ =>
          injection ho with ho
          subst ho
          clear hl
          simp only [fillA, List.take, List.drop, put_none, Act.put, List.setIfInBounds_toArray, List.set_cons_zero, List.set_cons_succ, Nat.reduceAdd]
          clear hf
          go_wp2_with (fail)
          exact RQ.mk rfl ⟨(by first | rfl | (simp [FS56_6_13]; done) | (simp [FS56_6_13, *]; done) | (simp [FS56_6_13, gotV]; done) | (simp [FS56_6_13, gotV]; omega)), fun h => absurd h (by decide)⟩ (Below.refl _ _)
        | 2, _ =>
          injection ho with ho
          subst ho
          clear hl
          simp only [fillA, List.take, List.drop, put_none, Act.put, List.setIfInBounds_toArray, List.set_cons_zero, List.set_cons_succ, Nat.reduceAdd]
          have f1 := hf 1 (by decide) (by kernel_rfl)
          generalize vals 1 = v1 at *
          subst f1
          clear hf
          have hc1 := cellOf hb1
          have hf1 := frozOf hb1
          have hz1 := sizeOf hb1
          try simp at hz1
          go_wp2_with (fail)
          exact RQ.mk rfl ⟨(by first | rfl | (simp [FS56_6_13]; done) | (simp [FS56_6_13, *]; done) | (simp [FS56_6_13, gotV]; done) | (simp [FS56_6_13, gotV]; omega)), fun h => absurd h (by decide)⟩ (Below.refl _ _)
        | 3, _ =>
          injection ho with ho
          subst ho
          clear hl
          simp only [fillA, List.take, List.drop, put_none, Act.put, List.setIfInBounds_toArray, List.set_cons_zero, List.set_cons_succ, Nat.reduceAdd]
          clear hf
          go_wp2_with (fail)
          exact RQ.mk rfl ⟨(by first | rfl | (simp [FS56_6_13]; done) | (simp [FS56_6_13, *]; done) | (simp [FS56_6_13, gotV]; done) | (simp [FS56_6_13, gotV]; omega)), fun h => absurd h (by decide)⟩ (Below.refl _ _)
        | 4, _ =>
          injection ho with ho
          subst ho
          clear hl
          simp only [fillA, List.take, List.drop, put_none, Act.put, List.setIfInBounds_toArray, List.set_cons_zero, List.set_cons_succ, Nat.reduceAdd]
          have f2 := hf 2 (by decide) (by kernel_rfl)
          generalize vals 2 = v2 at *
          subst f2
          have f3 := hf 3 (by decide) (by kernel_rfl)
          generalize vals 3 = v3 at *
          subst f3
          clear hf
          go_wp2_with (fail)
          exact RQ.mk rfl ⟨(by first | rfl | (simp [FS56_6_13]; done) | (simp [FS56_6_13, *]; done) | (simp [FS56_6_13, gotV]; done) | (simp [FS56_6_13, gotV]; omega)), fun h => absurd h (by decide)⟩ (Below.refl _ _)
        | 5, _ =>
          injection ho with ho
          subst ho
          clear hl
          simp only [fillA, List.take, List.drop, put_none, Act.put, List.setIfInBounds_toArray, List.set_cons_zero, List.set_cons_succ, Nat.reduceAdd]
          have f4 := hf 4 (by decide) (by kernel_rfl)
          generalize vals 4 = v4 at *
          subst f4
          clear hf
          go_wp2_with (fail)
          exact RQ.mk rfl ⟨(by first | rfl | (simp [FS56_6_13]; done) | (simp [FS56_6_13, *]; done) | (simp [FS56_6_13, gotV]; done) | (simp [FS56_6_13, gotV]; omega)), fun h => absurd h (by decide)⟩ (Below.refl _ _)
        | 6, _ =>
          injection ho with ho
          subst ho
          clear hl
          simp only [fillA, List.take, List.drop, put_none, Act.put, List.setIfInBounds_toArray, List.set_cons_zero, List.set_cons_succ, Nat.reduceAdd]
          have f5 := hf 5 (by decide) (by kernel_rfl)
          generalize vals 5 = v5 at *
          subst f5
          clear hf
          have hc1 := cellOf hb1
          have hf1 := frozOf hb1
          have hz1 := sizeOf hb1
          try simp at hz1
          go_wp2_with (fail)
          exact RQ.mk rfl ⟨(by first | rfl | (simp [FS56_6_13]; done) | (simp [FS56_6_13, *]; done) | (simp [FS56_6_13, gotV]; done) | (simp [FS56_6_13, gotV]; omega)), fun h => absurd h (by decide)⟩ (Below.refl _ _)
        | 7, _ =>
          injection ho with ho
          subst ho
          clear hl
          simp only [fillA, List.take, List.drop, put_none, Act.put, List.setIfInBounds_toArray, List.set_cons_zero, List.set_cons_succ, Nat.reduceAdd]
          have f0 := hf 0 (by decide) (by kernel_rfl)
          generalize vals 0 = v0 at *
          subst f0
          have f6 := hf 6 (by decide) (by kernel_rfl)
          generalize vals 6 = v6 at *
          subst f6
          clear hf
          go_wp2_with (fail)
          exact RQ.mk rfl ⟨(by first | rfl | (simp [FS56_6_13]; done) | (simp [FS56_6_13, *]; done) | (simp [FS56_6_13, gotV]; done) | (simp [FS56_6_13, gotV]; omega)), fun h => absurd h (by decide)⟩ (Below.refl _ _)
        | 8, _ =>
          injection ho with ho
          subst ho
          clear hl
          simp only [fillA, List.take, List.drop, put_none, Act.put, List.setIfInBounds_toArray, List.set_cons_zero, List.set_cons_succ, Nat.reduceAdd]
          have f7 := hf 7 (by decide) (by kernel_rfl)
          generalize vals 7 = v7 at *
          subst f7
          clear hf
          go_wp2_with (fail)
          exact RQ.mk rfl ⟨(by first | rfl | (simp [FS56_6_13]; done) | (simp [FS56_6_13, *]; done) | (simp [FS56_6_13, gotV]; done) | (simp [FS56_6_13, gotV]; omega)), fun h => absurd h (by decide)⟩ (Below.refl _ _)
        | 9, _ =>
          injection ho with ho
          subst ho
          clear hl
          simp only [fillA, List.take, List.drop, put_none, Act.put, List.setIfInBounds_toArray, List.set_cons_zero, List.set_cons_succ, Nat.reduceAdd]
          have f8 := hf 8 (by decide) (by kernel_rfl)
          generalize vals 8 = v8 at *
          subst f8
          clear hf
          go_wp2_with (fail)
          exact RQ.mk rfl ⟨(by first | rfl | (simp [FS56_6_13]; done) | (simp [FS56_6_13, *]; done) | (simp [FS56_6_13, gotV]; done) | (simp [FS56_6_13, gotV]; omega)), fun h => absurd h (by decide)⟩ (Below.refl _ _)
        | 10, _ =>
          injection ho with ho
          subst ho
          clear hl
          simp only [fillA, List.take, List.drop, put_none, Act.put, List.setIfInBounds_toArray, List.set_cons_zero, List.set_cons_succ, Nat.reduceAdd]
          have f9 := hf 9 (by decide) (by kernel_rfl)
          generalize vals 9 = v9 at *
          subst f9
          have f8 := hf 8 (by decide) (by kernel_rfl)
          generalize vals 8 = v8 at *
          subst f8
          clear hf
          have hc1 := cellOf hb1
          have hf1 := frozOf hb1
          have hz1 := sizeOf hb1
          try simp at hz1
          go_wp2_with (fail)
          exact RQ.mk rfl ⟨(by first | rfl | (simp [FS56_6_13]; done) | (simp [FS56_6_13, *]; done) | (simp [FS56_6_13, gotV]; done) | (simp [FS56_6_13, gotV]; omega)), fun h => absurd h (by decide)⟩ (Below.refl _ _)
        | 11, _ =>
          injection ho with ho
          subst ho
          clear hl
          simp only [fillA, List.take, List.drop, put_none, Act.put, List.setIfInBounds_toArray, List.set_cons_zero, List.set_cons_succ, Nat.reduceAdd]
          have f8 := hf 8 (by decide) (by kernel_rfl)
          generalize vals 8 = v8 at *
          subst f8
          clear hf
          go_wp2_with (fail)
          exact RQ.mk rfl ⟨(by first | rfl | (simp [FS56_6_13]; done) | (simp [FS56_6_13, *]; done) | (simp [FS56_6_13, gotV]; done) | (simp [FS56_6_13, gotV]; omega)), fun h => absurd h (by decide)⟩ (Below.refl _ _)
        | 12, _ =>
          injection ho with ho
          subst ho
          clear hl
          simp only [fillA, List.take, List.drop, put_none, Act.put, List.setIfInBounds_toArray, List.set_cons_zero, List.set_cons_succ, Nat.reduceAdd]
          have f10 := hf 10 (by decide) (by kernel_rfl)
          generalize vals 10 = v10 at *
          subst f10
          have f11 := hf 11 (by decide) (by kernel_rfl)
          generalize vals 11 = v11 at *
          subst f11
          have f8 := hf 8 (by decide) (by kernel_rfl)
          generalize vals 8 = v8 at *
          subst f8
          clear hf
          go_wp2_with (fail)
          exact RQ.mk rfl ⟨(by first | rfl | (simp [FS56_6_13]; done) | (simp [FS56_6_13, *]; done) | (simp [FS56_6_13, gotV]; done) | (simp [FS56_6_13, gotV]; omega)), fun h => absurd h (by decide)⟩ (Below.refl _ _)
        | 13, _ =>
          injection ho with ho
          subst ho
          clear hl
          simp only [fillA, List.take, List.drop, put_none, Act.put, List.setIfInBounds_toArray, List.set_cons_zero, List.set_cons_succ, Nat.reduceAdd]
          have f12 := hf 12 (by decide) (by kernel_rfl)
          generalize vals 12 = v12 at *
          subst f12
          have f8 := hf 8 (by decide) (by kernel_rfl)
          generalize vals 8 = v8 at *
          subst f8
          clear hf
          go_wp2_with (fail)
          exact RQ.mk rfl ⟨(by first | rfl | (simp [FS56_6_13]; done) | (simp [FS56_6_13, *]; done) | (simp [FS56_6_13, gotV]; done) | (simp [FS56_6_13, gotV]; omega)), fun h => absurd h (by decide)⟩ (Below.refl _ _)
        | 14, _ =>
          injection ho with ho
          subst ho
          clear hl
          simp only [fillA, List.take, List.drop, put_none, Act.put, List.setIfInBounds_toArray, List.set_cons_zero, List.set_cons_succ, Nat.reduceAdd]
          have f13 := hf 13 (by decide) (by kernel_rfl)
          generalize vals 13 = v13 at *
          subst f13
          have f8 := hf 8 (by decide) (by kernel_rfl)
          generalize vals 8 = v8 at *
          subst f8
          clear hf
          have hc1 := cellOf hb1
          have hf1 := frozOf hb1
          have hz1 := sizeOf hb1
          try simp at hz1
          go_wp2_with (fail)
          exact RQ.mk rfl ⟨(by first | rfl | (simp [FS56_6_13]; done) | (simp [FS56_6_13, *]; done) | (simp [FS56_6_13, gotV]; done) | (simp [FS56_6_13, gotV]; omega)), fun h => absurd h (by decide)⟩ (Below.refl _ _)
        | 15, _ =>
          injection ho with ho
          subst ho
          clear hl
          simp only [fillA, List.take, List.drop, put_none, Act.put, List.setIfInBounds_toArray, List.set_cons_zero, List.set_cons_succ, Nat.reduceAdd]
          have f8 := hf 8 (by decide) (by kernel_rfl)
          generalize vals 8 = v8 at *
          subst f8
          clear hf
          go_wp2_with (fail)
          exact RQ.mk rfl ⟨(by first | rfl | (simp [FS56_6_13]; done) | (simp [FS56_6_13, *]; done) | (simp [FS56_6_13, gotV]; done) | (simp [FS56_6_13, gotV]; omega)), fun h => absurd h (by decide)⟩ (Below.refl _ _)
        | 16, _ =>
          injection ho with ho
          subst ho
          clear hl
          simp only [fillA, List.take, List.drop, put_none, Act.put, List.setIfInBounds_toArray, List.set_cons_zero, List.set_cons_succ, Nat.reduceAdd]
          have f8 := hf 8 (by decide) (by kernel_rfl)
          generalize vals 8 = v8 at *
          subst f8
          clear hf
          go_wp2_with (fail)
          exact RQ.mk rfl ⟨(by first | rfl | (simp [FS56_6_13]; done) | (simp [FS56_6_13, *]; done) | (simp [FS56_6_13, gotV]; done) | (simp [FS56_6_13, gotV]; omega)), fun h => absurd h (by decide)⟩ (Below.refl _ _)
        | 17, _ =>
          injection ho with ho
          subst ho
          clear hl
          simp only [fillA, List.take, List.drop, put_none, Act.put, List.setIfInBounds_toArray, List.set_cons_zero, List.set_cons_succ, Nat.reduceAdd]
          have f16 := hf 16 (by decide) (by kernel_rfl)
          generalize vals 16 = v16 at *
          subst f16
          have f8 := hf 8 (by decide) (by kernel_rfl)
          generalize vals 8 = v8 at *
          subst f8
          clear hf
          have hc1 := cellOf hb1
          have hf1 := frozOf hb1
          have hz1 := sizeOf hb1
          try simp at hz1
          go_wp2_with (fail)
          exact RQ.mk rfl ⟨(by first | rfl | (simp [FS56_6_13]; done) | (simp [FS56_6_13, *]; done) | (simp [FS56_6_13, gotV]; done) | (simp [FS56_6_13, gotV]; omega)), fun h => absurd h (by decide)⟩ (Below.refl _ _)
        | 18, _ =>
          injection ho with ho
          subst ho
          clear hl
          simp only [fillA, List.take, List.drop, put_none, Act.put, List.setIfInBounds_toArray, List.set_cons_zero, List.set_cons_succ, Nat.reduceAdd]
          have f15 := hf 15 (by decide) (by kernel_rfl)
          generalize vals 15 = v15 at *
          subst f15
          have f17 := hf 17 (by decide) (by kernel_rfl)
          generalize vals 17 = v17 at *
          subst f17
          have f8 := hf 8 (by decide) (by kernel_rfl)
          generalize vals 8 = v8 at *
          subst f8
          clear hf
          go_wp2_with (fail)
          exact RQ.mk rfl ⟨(by first | rfl | (simp [FS56_6_13]; done) | (simp [FS56_6_13, *]; done) | (simp [FS56_6_13, gotV]; done) | (simp [FS56_6_13, gotV]; omega)), fun h => absurd h (by decide)⟩ (Below.refl _ _)
        | 19, _ =>
          injection ho with ho
          subst ho
          clear hl
          simp only [fillA, List.take, List.drop, put_none, Act.put, List.setIfInBounds_toArray, List.set_cons_zero, List.set_cons_succ, Nat.reduceAdd]
          have f18 := hf 18 (by decide) (by kernel_rfl)
          generalize vals 18 = v18 at *
          subst f18
          have f8 := hf 8 (by decide) (by kernel_rfl)
          generalize vals 8 = v8 at *
          subst f8
          clear hf
          go_wp2_with (fail)
          exact RQ.mk rfl ⟨(by first | rfl | (simp [FS56_6_13]; done) | (simp [FS56_6_13, *]; done) | (simp [FS56_6_13, gotV]; done) | (simp [FS56_6_13, gotV]; omega)), fun h => absurd h (by decide)⟩ (Below.refl _ _)
        | 20, _ =>
          injection ho with ho
          subst ho
          clear hl
          simp only [fillA, List.take, List.drop, put_none, Act.put, List.setIfInBounds_toArray, List.set_cons_zero, List.set_cons_succ, Nat.reduceAdd]
          have f14 := hf 14 (by decide) (by kernel_rfl)
          generalize vals 14 = v14 at *
          subst f14
          have f19 := hf 19 (by decide) (by kernel_rfl)
          generalize vals 19 = v19 at *
          subst f19
          have f8 := hf 8 (by decide) (by kernel_rfl)
          generalize vals 8 = v8 at *
          subst f8
          clear hf
          go_wp2_with (fail)
          exact RQ.mk rfl ⟨(by first | rfl | (simp [FS56_6_13]; done) | (simp [FS56_6_13, *]; done) | (simp [FS56_6_13, gotV]; done) | (simp [FS56_6_13, gotV]; omega)), fun h => absurd h (by decide)⟩ (Below.refl _ _)
        | 21, _ =>
          injection ho with ho
          subst ho
          clear hl
          simp only [fillA, List.take, List.drop, put_none, Act.put, List.setIfInBounds_toArray, List.set_cons_zero, List.set_cons_succ, Nat.reduceAdd]
          have f8 := hf 8 (by decide) (by kernel_rfl)
          generalize vals 8 = v8 at *
          subst f8
          have f20 := hf 20 (by decide) (by kernel_rfl)
          generalize vals 20 = v20 at *
          subst f20
          clear hf
          go_wp2_with (fail)
          exact RQ.mk rfl ⟨(by first | rfl | (simp [FS56_6_13]; done) | (simp [FS56_6_13, *]; done) | (simp [FS56_6_13, gotV]; done) | (simp [FS56_6_13, gotV]; omega)), fun h => absurd h (by decide)⟩ (Below.refl _ _)
        | m + 22, h => exact absurd h (by omega)
      · intro vals w1 hb1 hf hd
        simp only [fillA, List.take, List.drop, put_none, Act.put, List.setIfInBounds_toArray, List.set_cons_zero, List.set_cons_succ, Nat.reduceAdd]
        clear hd
        have f0 := hf 0 (by decide)
        generalize vals 0 = v0 at *
        subst f0
        have f1 := hf 1 (by decide)
        generalize vals 1 = v1 at *
        subst f1
        have f2 := hf 2 (by decide)
        generalize vals 2 = v2 at *
        subst f2
        have f3 := hf 3 (by decide)
        generalize vals 3 = v3 at *
        subst f3
        have f4 := hf 4 (by decide)
        generalize vals 4 = v4 at *
        subst f4
        have f5 := hf 5 (by decide)
        generalize vals 5 = v5 at *
        subst f5
        have f6 := hf 6 (by decide)
        generalize vals 6 = v6 at *
        subst f6
        have f7 := hf 7 (by decide)
        generalize vals 7 = v7 at *
        subst f7
        have f8 := hf 8 (by decide)
        generalize vals 8 = v8 at *
        subst f8
        have f9 := hf 9 (by decide)
        generalize vals 9 = v9 at *
        subst f9
        have f10 := hf 10 (by decide)
        generalize vals 10 = v10 at *
        subst f10
        have f11 := hf 11 (by decide)
        generalize vals 11 = v11 at *
        subst f11
        have f12 := hf 12 (by decide)
        generalize vals 12 = v12 at *
        subst f12
        have f13 := hf 13 (by decide)
        generalize vals 13 = v13 at *
        subst f13
        have f14 := hf 14 (by decide)
        generalize vals 14 = v14 at *
        subst f14
        have f15 := hf 15 (by decide)
        generalize vals 15 = v15 at *
        subst f15
        have f16 := hf 16 (by decide)
        generalize vals 16 = v16 at *
        subst f16
        have f17 := hf 17 (by decide)
        generalize vals 17 = v17 at *
        subst f17
        have f18 := hf 18 (by decide)
        generalize vals 18 = v18 at *
        subst f18
        have f19 := hf 19 (by decide)
        generalize vals 19 = v19 at *
        subst f19
        have f20 := hf 20 (by decide)
        generalize vals 20 = v20 at *
        subst f20
        have f21 := hf 21 (by decide)
        generalize vals 21 = v21 at *
        subst f21
        clear hf
        have hc1 := cellOf hb1
        have hf1 := frozOf hb1
        have hz1 := sizeOf hb1
        try simp at hz1
        go_wp2_with (fail)
        go_ret
        exact ⟨ret_bool (by rw [HV.out]), by (repeat' (first | exact Below.refl _ _ | assumption | refine Below.setCell ?_ ?_ _ | refine Below.drew ?_ | refine Below.alloc ?_ ?_ _ | refine Below.trans ?_ (Below.mono (by assumption) ?_) | (simp; done) | (simp; omega) | omega))⟩
    · obtain rfl : k = xs.length := by omega
      have hp0' : far wr w.heap.size 0 = _ := hp0
      have hp1' : far wr w.heap.size 1 = _ := hp1
      have HV := hid (show mayB d xs t = true by have := HM.out; rw [List.take_length] at this; unfold mayB; rw [this]; simp; omega)
      go_wp2_with (fail)
      go_ret
      exact ⟨ret_bool (by rw [HV.out]), by (repeat' (first | exact Below.refl _ _ | assumption | refine Below.setCell ?_ ?_ _ | refine Below.drew ?_ | refine Below.alloc ?_ ?_ _ | refine Below.trans ?_ (Below.mono (by assumption) ?_) | (simp; done) | (simp; omega) | omega))⟩

end Go.Proofs.Yteciijnpfapmhaa
