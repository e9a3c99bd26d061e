import Derived.Test.YteciijnpfapmhaaK3
import Derived.Test.YteciijnpfapmhaaK2
import Derived.Test.YteciijnpfapmhaaG2i
namespace Go.Proofs.Yteciijnpfapmhaa
set_option linter.unusedSimpArgs false
set_option linter.unusedVariables false
open Go.RowKit

set_option maxHeartbeats 400000 in
theorem c_impl_IsBridgePlan_1 (n p : Int) (bp : Nat) (w : World) (hbp0 : w.cell? ⟨bp, 0, none⟩ = some (.int .i64 (p))) (hlbp : bp < w.heap.size) :
    Calls Try.prog 66 #[.int .i64 (n), .pointer (some ⟨bp, 0, none⟩)] w fun e w' => e = .returned (.bool (!inB n 0 p)) ∧ Below w.heap.size w w' := by
  go_enter Try.func66, Try.ntmps66
  go_wp2_with (first | (go_at_call 53; refine (c_impl_inside _ _ _ _ ).mono ?_; rintro e w' ⟨rfl, hb⟩; have hc := cellOf hb; have hf := frozOf hb; have hz := sizeOf hb; try simp at hz))
  all_goals go_ret
  all_goals
    refine ⟨ret_bool ?_, ?_⟩
    · first | rfl | omega | (simp []; done) | (simp []; omega) | (simp []; (repeat' split) <;> (first | omega | (simp; done) | (simp; omega))) | (simp_all []; done) | (simp_all []; omega)
    · (repeat' (first | exact Below.refl _ _ | assumption | refine Below.setCell ?_ ?_ _ | refine Below.drew ?_ | refine Below.alloc ?_ ?_ _ | refine Below.trans ?_ (Below.mono (by assumption) ?_) | (simp; done) | (simp; omega) | omega))

set_option maxHeartbeats 2000000 in
theorem c_idx_out (A : Option Addr) (xs : List (Int)) (cap : Nat) (p : Int) (bp : Nat) (w : World) (h0 : Rds cIn 1 w A xs) (hn : xs.length ≤ 9223372036854775807) (hbp0 : w.cell? ⟨bp, 0, none⟩ = some (.int .i64 (p))) (hlbp : bp < w.heap.size) :
    Calls Try.prog 88 #[.slice A xs.length cap, .func (.func 66) #[] #[.pointer (some ⟨bp, 0, none⟩)]] w fun e w' => e = .returned (.int .i64 (idxF (outP p) xs)) ∧ Below w.heap.size w w' := by
  go_enter Try.func88, Try.ntmps88
  go_wp2_with (fail)
  go_loopw [5, 8] (fun _ i wr => ∃ k : Nat, k ≤ xs.length ∧ i = .int .i64 k ∧ (xs.take k).any (outP p) = false ∧ Below w.heap.size w wr) (fun _ i _ => xs.length - (intOf i).toNat)
  case atStart => exact ⟨0, Nat.zero_le _, rfl, rfl, Below.refl _ _⟩
  case round =>
    obtain ⟨k, hk, rfl, hl, hbr⟩ := hrel
    have HT := hid hl
    clear hl
    by_cases hlt : k < xs.length
    · obtain ⟨bx, ox, rfl, hbx, hcx⟩ := h0 k xs[k] (List.getElem?_eq_getElem hlt)
      have hx0 := hcx 0 _ rfl
      simp only [Nat.add_zero, Nat.mul_one] at hx0
      clear hcx h0
      skip
      have HS := hid (any_snoc (outP p) xs k hlt)
      have HH := hid (fun hp => idxF_hit (p := (outP p)) (xs := xs) HT.out hlt hp)
      obtain ⟨x, hxk⟩ : ∃ x, x = xs[k] := ⟨_, rfl⟩
      simp only [← hxk] at hx0 HS HH
      clear hxk
      have hc := cellOf hbr
      have hf := frozOf hbr
      have hz := sizeOf hbr
      have mbp0 : wr.cell? ⟨bp, 0, none⟩ = some (.int .i64 (p)) := by rw [hc, if_pos hlbp]; exact hbp0
      have mlbp : bp < wr.heap.size := by omega
      by_cases hp : (outP p) x = true
      · have HP := hid hp
        have hp' := hp
        simp only [outP, Bool.not_eq_true', Bool.not_eq_false'] at hp'
        clear hp
        go_wp2_with (go_at_call 66; refine (c_impl_IsBridgePlan_1 _ p bp _ mbp0 mlbp).mono ?_; rintro e w2 ⟨rfl, hb2⟩)
        go_ret
        exact ⟨ret_int (HH.out HP.out).symm, by (repeat' (first | exact Below.refl _ _ | assumption | refine Below.setCell ?_ ?_ _ | refine Below.drew ?_ | refine Below.alloc ?_ ?_ _ | refine Below.trans ?_ (Below.mono (by assumption) ?_) | (simp; done) | (simp; omega) | omega))⟩
      · have HP : Hid ((outP p) x = false) := by show _ = _; simpa using hp
        have hp' := HP.out
        simp only [outP, Bool.not_eq_true', Bool.not_eq_false'] at hp'
        clear hp
        go_wp2_with (go_at_call 66; refine (c_impl_IsBridgePlan_1 _ p bp _ mbp0 mlbp).mono ?_; rintro e w2 ⟨rfl, hb2⟩)
        go_roundw
        case rel => exact ⟨k + 1, by omega, by go_num, by rw [HS.out, HT.out, HP.out]; rfl, by (repeat' (first | exact Below.refl _ _ | assumption | refine Below.setCell ?_ ?_ _ | refine Below.drew ?_ | refine Below.alloc ?_ ?_ _ | refine Below.trans ?_ (Below.mono (by assumption) ?_) | (simp; done) | (simp; omega) | omega))⟩
        case measure => simp [intOf]; omega
    · obtain rfl : k = xs.length := by omega
      have HN := hid (idxF_none (p := (outP p)) (xs := xs) (by have := HT.out; rwa [List.take_length] at this))
      go_wp2_with (fail)
      go_ret
      exact ⟨ret_int HN.out.symm, by (repeat' (first | exact Below.refl _ _ | assumption | refine Below.setCell ?_ ?_ _ | refine Below.drew ?_ | refine Below.alloc ?_ ?_ _ | refine Below.trans ?_ (Below.mono (by assumption) ?_) | (simp; done) | (simp; omega) | omega))⟩

set_option maxHeartbeats 2000000 in
theorem c_has_out (A : Option Addr) (xs : List (Int)) (cap : Nat) (p : Int) (bp : Nat) (w : World) (h0 : Rds cIn 1 w A xs) (hn : xs.length ≤ 9223372036854775807) (hbp0 : w.cell? ⟨bp, 0, none⟩ = some (.int .i64 (p))) (hlbp : bp < w.heap.size) :
    Calls Try.prog 64 #[.slice A xs.length cap, .func (.func 66) #[] #[.pointer (some ⟨bp, 0, none⟩)]] w fun e w' => e = .returned (.bool (xs.any (outP p))) ∧ Below w.heap.size w w' := by
  go_enter Try.func64, Try.ntmps64
  go_wp2_with (go_at_call 88; refine (c_idx_out _ _ _ _ _ _ (by assumption) (by assumption) (by assumption) (by assumption)).mono ?_; rintro e w' ⟨rfl, hb⟩)
  all_goals go_ret
  all_goals exact ⟨ret_bool (by rw [← idxF_any]; simp), by (repeat' (first | exact Below.refl _ _ | assumption | refine Below.setCell ?_ ?_ _ | refine Below.drew ?_ | refine Below.alloc ?_ ?_ _ | refine Below.trans ?_ (Below.mono (by assumption) ?_) | (simp; done) | (simp; omega) | omega))⟩

def FS27_6 (d : Int) (A : Option Addr) (xs : List (Int × Int)) (x y : Int) (bx ox k n0 n1 cap capp : Nat) (w W0 : World) (iq : Nat) (v : Value) (w1 : World) : Prop := match iq with
  | 0 => v = .int .i64 (x)
  | 1 => v = .bool (false)
  | 2 => v = .bool (true)
  | 3 => v = .bool (true)
  | 4 => v = undef
  | 5 => v = undef
  | 6 => v = undef
  | 7 => v = undef
  | 8 => v = .bool (true)
  | 9 => v = .bool (true)
  | 10 => v = undef
  | 11 => v = undef
  | 12 => v = undef
  | 13 => v = undef
  | 14 => v = undef
  | 15 => v = undef
  | 16 => v = undef
  | 17 => v = undef
  | 18 => v = undef
  | 19 => v = undef
  | 20 => v = undef
  | 21 => v = undef
  | 22 => v = undef
  | 23 => v = undef
  | 24 => v = .bool (true)
  | _ => True

def FS27_6_28 (d : Int) (A : Option Addr) (xs : List (Int × Int)) (x y : Int) (bx ox k n0 n1 cap capp : Nat) (w W0 : World) (iq : Nat) (v : Value) (w1 : World) : Prop := match iq with
  | 0 => v = .int .i64 (x)
  | 1 => v = .bool (true)
  | 2 => v = .bool (false)
  | 3 => v = .bool (false)
  | 4 => v = .agg #[.int .i64 (d), .slice A n0 cap]
  | 5 => v = .int .i64 (x)
  | 6 => v = .bool (true)
  | 7 => v = .bool (false)
  | 8 => v = .bool (false)
  | 9 => v = .bool (false)
  | 10 => v = .int .i64 (0)
  | 11 => v = .bool (false)
  | 12 => v = .bool (false)
  | 13 => v = undef
  | 14 => v = undef
  | 15 => v = undef
  | 16 => v = undef
  | 17 => v = undef
  | 18 => v = undef
  | 19 => v = undef
  | 20 => v = undef
  | 21 => v = undef
  | 22 => v = undef
  | 23 => v = .bool (false)
  | 24 => v = .bool (false)
  | _ => True

def FS27_6_29 (d : Int) (A : Option Addr) (xs : List (Int × Int)) (x y : Int) (bx ox k n0 n1 cap capp : Nat) (w W0 : World) (iq : Nat) (v : Value) (w1 : World) : Prop := match iq with
  | 0 => v = .int .i64 (x)
  | 1 => v = .bool (true)
  | 2 => v = .bool (false)
  | 3 => v = .bool (false)
  | 4 => v = .agg #[.int .i64 (d), .slice A n0 cap]
  | 5 => v = .int .i64 (x)
  | 6 => v = .bool (false)
  | 7 => v = .bool (true)
  | 8 => v = .bool (true)
  | 9 => v = .bool (true)
  | 10 => v = undef
  | 11 => v = undef
  | 12 => v = undef
  | 13 => v = undef
  | 14 => v = undef
  | 15 => v = undef
  | 16 => v = undef
  | 17 => v = undef
  | 18 => v = undef
  | 19 => v = undef
  | 20 => v = undef
  | 21 => v = undef
  | 22 => v = undef
  | 23 => v = undef
  | 24 => v = .bool (true)
  | _ => True

def FS27_6_30 (d : Int) (A : Option Addr) (xs : List (Int × Int)) (x y : Int) (bx ox k n0 n1 cap capp : Nat) (w W0 : World) (iq : Nat) (v : Value) (w1 : World) : Prop := match iq with
  | 0 => v = .int .i64 (x)
  | 1 => v = .bool (false)
  | 2 => v = .bool (true)
  | 3 => v = .bool (true)
  | 4 => v = undef
  | 5 => v = undef
  | 6 => v = undef
  | 7 => v = undef
  | 8 => v = .bool (true)
  | 9 => v = .bool (true)
  | 10 => v = undef
  | 11 => v = undef
  | 12 => v = undef
  | 13 => v = undef
  | 14 => v = undef
  | 15 => v = undef
  | 16 => v = undef
  | 17 => v = undef
  | 18 => v = undef
  | 19 => v = undef
  | 20 => v = undef
  | 21 => v = undef
  | 22 => v = undef
  | 23 => v = undef
  | 24 => v = .bool (true)
  | _ => True

def FS27_6_31 (d : Int) (A : Option Addr) (xs : List (Int × Int)) (x y : Int) (bx ox k n0 n1 cap capp : Nat) (w W0 : World) (iq : Nat) (v : Value) (w1 : World) : Prop := match iq with
  | 0 => v = .int .i64 (x)
  | 1 => v = .bool (true)
  | 2 => v = .bool (false)
  | 3 => v = .bool (false)
  | 4 => v = .agg #[.int .i64 (d), .slice A n0 cap]
  | 5 => v = .int .i64 (x)
  | 6 => v = .bool (false)
  | 7 => v = .bool (true)
  | 8 => v = .bool (true)
  | 9 => v = .bool (true)
  | 10 => v = undef
  | 11 => v = undef
  | 12 => v = undef
  | 13 => v = undef
  | 14 => v = undef
  | 15 => v = undef
  | 16 => v = undef
  | 17 => v = undef
  | 18 => v = undef
  | 19 => v = undef
  | 20 => v = undef
  | 21 => v = undef
  | 22 => v = undef
  | 23 => v = undef
  | 24 => v = .bool (true)
  | _ => True

def FS27_6_32 (d : Int) (A : Option Addr) (xs : List (Int × Int)) (x y : Int) (bx ox k n0 n1 cap capp : Nat) (w W0 : World) (iq : Nat) (v : Value) (w1 : World) : Prop := match iq with
  | 0 => v = .int .i64 (x)
  | 1 => v = .bool (true)
  | 2 => v = .bool (false)
  | 3 => v = .bool (false)
  | 4 => v = .agg #[.int .i64 (d), .slice A n0 cap]
  | 5 => v = .int .i64 (x)
  | 6 => v = .bool (true)
  | 7 => v = .bool (false)
  | 8 => v = .bool (false)
  | 9 => v = .bool (false)
  | 10 => v = .int .i64 (k + 1)
  | 11 => v = .bool (true)
  | 12 => v = .bool (true)
  | 13 => v = .int .i64 (x)
  | 14 => v = .slice (some ⟨bx, ox, none⟩) n1 capp
  | 15 => v = .int .i64 (k + 1)
  | 16 => v = .int .i64 (k)
  | 17 => v = .pointer (some ⟨bx, ox + k, none⟩)
  | 18 => v = .int .i64 (y)
  | 19 => v = .int .i64 (x - y)
  | 20 => v = .pointer (some ⟨w.heap.size, 0, none⟩)
  | 21 => v = .int .i64 (d)
  | 22 => v = .bool (true)
  | 23 => v = .bool (true)
  | 24 => v = .bool (true)
  | _ => True

def FS27_6_33 (d : Int) (A : Option Addr) (xs : List (Int × Int)) (x y : Int) (bx ox k n0 n1 cap capp : Nat) (w W0 : World) (iq : Nat) (v : Value) (w1 : World) : Prop := match iq with
  | 0 => v = .int .i64 (x)
  | 1 => v = .bool (true)
  | 2 => v = .bool (false)
  | 3 => v = .bool (false)
  | 4 => v = .agg #[.int .i64 (d), .slice A n0 cap]
  | 5 => v = .int .i64 (x)
  | 6 => v = .bool (true)
  | 7 => v = .bool (false)
  | 8 => v = .bool (false)
  | 9 => v = .bool (false)
  | 10 => v = .int .i64 (k + 1)
  | 11 => v = .bool (true)
  | 12 => v = .bool (true)
  | 13 => v = .int .i64 (x)
  | 14 => v = .slice (some ⟨bx, ox, none⟩) n1 capp
  | 15 => v = .int .i64 (k + 1)
  | 16 => v = .int .i64 (k)
  | 17 => v = .pointer (some ⟨bx, ox + k, none⟩)
  | 18 => v = .int .i64 (y)
  | 19 => v = .int .i64 (x - y)
  | 20 => v = .pointer (some ⟨w.heap.size, 0, none⟩)
  | 21 => v = .int .i64 (d)
  | 22 => v = .bool (false)
  | 23 => v = .bool (false)
  | 24 => v = .bool (false)
  | _ => True

set_option maxRecDepth 100000 in
set_option maxHeartbeats 8000000 in
theorem c_impl_IsBridgePlan (d : Int) (A : Option Addr) (xs : List (Int × Int)) (cap : Nat) (B : Option Addr) (rs : List Int) (capr : Nat) (p : Int) (C : Option Addr) (pl : List Int) (capp : Nat) (w : World) (hx : Rds cIv 2 w A xs) (hn : xs.length ≤ 9223372036854775807) (hr : Rds cIn 1 w B rs) (hnr : rs.length ≤ 9223372036854775807) (hq : Rds cIn 1 w C pl) (hnp : pl.length ≤ 9223372036854775807) :
    Calls Try.prog 27 #[.agg #[.int .i64 d, .slice A xs.length cap], .slice B rs.length capr, .int .i64 p, .slice C pl.length capp] w fun e w' => e = .returned (.bool (planB d xs rs p pl)) ∧ Below w.heap.size w w' := by
  by_cases hs0 : reqB d xs rs p = true
  rotate_left
  · have hn0 : reqB d xs rs p = false := Bool.eq_false_iff.2 hs0
    have HV := hid (planB_no1 (pl := pl) hn0)
    clear hs0
    go_enter Try.func27, Try.ntmps27
    go_wp2_with (first | (go_at_call 63; refine (c_impl_areRequests _ _ _ _ _ _ _ _ _ (by first | assumption | exact Rds.below hx (by (repeat' (first | exact Below.refl _ _ | assumption | refine Below.setCell ?_ ?_ _ | refine Below.drew ?_ | refine Below.alloc ?_ ?_ _ | refine Below.trans ?_ (Below.mono (by assumption) ?_) | (simp; done) | (simp; omega) | omega)))) (by omega) (by first | assumption | exact Rds.below hr (by (repeat' (first | exact Below.refl _ _ | assumption | refine Below.setCell ?_ ?_ _ | refine Below.drew ?_ | refine Below.alloc ?_ ?_ _ | refine Below.trans ?_ (Below.mono (by assumption) ?_) | (simp; done) | (simp; omega) | omega)))) (by omega)).mono ?_; rintro e w' ⟨rfl, hb⟩; have hc := cellOf hb; have hf := frozOf hb; have hz := sizeOf hb; try simp at hz))
    all_goals go_ret
    all_goals exact ⟨by first | (rw [HV.out]; done) | (rw [HV.out]; rfl), by (repeat' (first | exact Below.refl _ _ | assumption | refine Below.setCell ?_ ?_ _ | refine Below.drew ?_ | refine Below.alloc ?_ ?_ _ | refine Below.trans ?_ (Below.mono (by assumption) ?_) | (simp; done) | (simp; omega) | omega))⟩
  have hbr0 := reqB_br hs0
  have hdb := brB_dur hbr0
  have hok := brB_P hbr0
  have hrm := reqB_P hs0
  have hrl := vB_len (reqB_v hs0)
  go_enter Try.func27, Try.ntmps27
  go_wp2_with (first | (go_at_call 63; refine (c_impl_areRequests _ _ _ _ _ _ _ _ _ (by first | assumption | exact Rds.below hx (by (repeat' (first | exact Below.refl _ _ | assumption | refine Below.setCell ?_ ?_ _ | refine Below.drew ?_ | refine Below.alloc ?_ ?_ _ | refine Below.trans ?_ (Below.mono (by assumption) ?_) | (simp; done) | (simp; omega) | omega)))) (by omega) (by first | assumption | exact Rds.below hr (by (repeat' (first | exact Below.refl _ _ | assumption | refine Below.setCell ?_ ?_ _ | refine Below.drew ?_ | refine Below.alloc ?_ ?_ _ | refine Below.trans ?_ (Below.mono (by assumption) ?_) | (simp; done) | (simp; omega) | omega)))) (by omega)).mono ?_; rintro e w' ⟨rfl, hb⟩; have hc := cellOf hb; have hf := frozOf hb; have hz := sizeOf hb; try simp at hz))
  go_loopw [18] (fun i wr => ∃ k : Nat, k ≤ pl.length ∧ i = .int .i64 k ∧ (∀ j, j < k → vAt (mayB d xs) (gapLe d) pl j = true) ∧ wr.cell? ⟨w.heap.size, 0, none⟩ = some (.int .i64 d) ∧ wr.cell? ⟨w.heap.size, 1, none⟩ = some (.slice A xs.length cap) ∧ wr.cell? ⟨w.heap.size + 1, 0, none⟩ = some (.int .i64 p) ∧ w.heap.size + 2 ≤ wr.heap.size ∧ Below w.heap.size w wr) (fun i _ => pl.length - (intOf i).toNat)
  case atStart =>
    refine ⟨0, Nat.zero_le _, rfl, fun j hj => absurd hj (Nat.not_lt_zero j), ?_, ?_, ?_, ?_, by (repeat' (first | exact Below.refl _ _ | assumption | refine Below.setCell ?_ ?_ _ | refine Below.drew ?_ | refine Below.alloc ?_ ?_ _ | refine Below.trans ?_ (Below.mono (by assumption) ?_) | (simp; done) | (simp; omega) | omega))⟩
    all_goals first | (simp [go_sem, ↓IntWalk.iteOmega, *]; done) | (simp at *; omega)
  case round =>
    obtain ⟨k, hk, rfl, hl, hp0, hp1, hp2, hzz, hbr⟩ := hrel
    have hc := cellOf hbr
    have hf := frozOf hbr
    have hz := sizeOf hbr
    have hp0' : far wr w.heap.size 0 = _ := hp0
    have hp1' : far wr w.heap.size 1 = _ := hp1
    have hp2' : far wr (w.heap.size + 1) 0 = _ := hp2
    by_cases hlt : k < pl.length
    · obtain ⟨bx, ox, rfl, hbx, hcx⟩ := Rds.all hq (by omega)
      have HB := hid (fun e => planB_no2 (rs := rs) (p := p) (opsB_bad (d := d) (xs := xs) hlt e))
      have HL := hid hl
      clear hl hq
      cases k with
      | zero =>
        have HV := hid (vAt_zero (good := mayB d xs) (lt := gapLe d) hlt)
        have hx0 := hcx 0 hlt 0 _ rfl
        simp only [Nat.zero_mul, Nat.add_zero] at hx0
        clear hcx
        generalize pl[0] = x at *
        by_cases hm : minB x = true
        rotate_left
        · have hmf : minB x = false := by simpa using hm
          have HG := hid (mayB_min (d := d) (xs := xs) hdb.1 hmf)
          clear hm
          go_wp2_with (fail)
          refine wp_region_w (n := 25) [] [] (FS27_6 d A xs x x bx ox 0 xs.length pl.length cap capp w) rfl (by kernel_rfl) (fun _ _ d _ _ h => by cases d <;> exact h) ?_ ?_ ?_ ?_ ?_ ?_
          · intro iq
            match iq with
            | 0 | 1 | 2 | 3 | 4 | 5 | 6 | 7 | 8 | 9 | 10 | 11 | 12 | 13 | 14 | 15 | 16 | 17 | 18 | 19 | 20 | 21 | 22 | 23 | 24 => exact Stable.const _
            | n + 25 => exact Stable.const _
          · intro iq hi
            exact absurd hi (by simp)
          · intro iq hi
            exact absurd hi (by simp)
          · intro iq o hi hl ho vals w1 hb1 hf
            exact absurd hl (by simp)
          · intro iq o hi hl ho vals w1 hb1 hf
            match iq, hi with
            | 0, _ =>
              injection ho with ho
              subst ho
              clear hl
              simp only [fillA, List.take, List.drop, put_none, Act.put, List.setIfInBounds_toArray, List.set_cons_zero, List.set_cons_succ, Nat.reduceAdd]
              clear hf
              go_wp2_with (fail)
              exact RQ.mk rfl ⟨(by first | rfl | (simp [FS27_6]; done) | (simp [FS27_6, *]; done) | (simp [FS27_6, gotV]; done) | (simp [FS27_6, gotV]; omega)), fun h => absurd h (by decide)⟩ (Below.refl _ _)
            | 1, _ =>
              injection ho with ho
              subst ho
              clear hl
              simp only [fillA, List.take, List.drop, put_none, Act.put, List.setIfInBounds_toArray, List.set_cons_zero, List.set_cons_succ, Nat.reduceAdd]
              have f0 := hf 0 (by decide) (by kernel_rfl)
              generalize vals 0 = v0 at *
              subst f0
              clear hf
              have hc1 := cellOf hb1
              have hf1 := frozOf hb1
              have hz1 := sizeOf hb1
              try simp at hz1
              go_wp2_with (first | (go_at_call 57; refine (c_impl_isMinute _ _ ).mono ?_; rintro e w' ⟨rfl, hb⟩; have hc := cellOf hb; have hf := frozOf hb; have hz := sizeOf hb; try simp at hz))
              exact RQ.mk rfl ⟨(by first | rfl | (simp [FS27_6]; done) | (simp [FS27_6, *]; done) | (simp [FS27_6, gotV]; done) | (simp [FS27_6, gotV]; omega)), fun h => absurd h (by decide)⟩ (by (repeat' (first | exact Below.refl _ _ | assumption | refine Below.setCell ?_ ?_ _ | refine Below.drew ?_ | refine Below.alloc ?_ ?_ _ | refine Below.trans ?_ (Below.mono (by assumption) ?_) | (simp; done) | (simp; omega) | omega)))
            | 2, _ =>
              injection ho with ho
              subst ho
              clear hl
              simp only [fillA, List.take, List.drop, put_none, Act.put, List.setIfInBounds_toArray, List.set_cons_zero, List.set_cons_succ, Nat.reduceAdd]
              have f1 := hf 1 (by decide) (by kernel_rfl)
              generalize vals 1 = v1 at *
              subst f1
              clear hf
              go_wp2_with (fail)
              exact RQ.mk rfl ⟨(by first | rfl | (simp [FS27_6]; done) | (simp [FS27_6, *]; done) | (simp [FS27_6, gotV]; done) | (simp [FS27_6, gotV]; omega)), fun h => absurd h (by decide)⟩ (Below.refl _ _)
            | 3, _ =>
              injection ho with ho
              subst ho
              clear hl
              simp only [fillA, List.take, List.drop, put_none, Act.put, List.setIfInBounds_toArray, List.set_cons_zero, List.set_cons_succ, Nat.reduceAdd]
              have f2 := hf 2 (by decide) (by kernel_rfl)
              generalize vals 2 = v2 at *
              subst f2
              have f1 := hf 1 (by decide) (by kernel_rfl)
              generalize vals 1 = v1 at *
              subst f1
              clear hf
              go_wp2_with (fail)
              exact RQ.mk rfl ⟨(by first | rfl | (simp [FS27_6]; done) | (simp [FS27_6, *]; done) | (simp [FS27_6, gotV]; done) | (simp [FS27_6, gotV]; omega)), fun h => absurd h (by decide)⟩ (Below.refl _ _)
            | 4, _ =>
              injection ho with ho
              subst ho
              clear hl
              simp only [fillA, List.take, List.drop, put_none, Act.put, List.setIfInBounds_toArray, List.set_cons_zero, List.set_cons_succ, Nat.reduceAdd]
              have f3 := hf 3 (by decide) (by kernel_rfl)
              generalize vals 3 = v3 at *
              subst f3
              clear hf
              go_wp2_with (fail)
              exact RQ.mk rfl ⟨(by first | rfl | (simp [FS27_6]; done) | (simp [FS27_6, *]; done) | (simp [FS27_6, gotV]; done) | (simp [FS27_6, gotV]; omega)), fun h => absurd h (by decide)⟩ (Below.refl _ _)
            | 5, _ =>
              injection ho with ho
              subst ho
              clear hl
              simp only [fillA, List.take, List.drop, put_none, Act.put, List.setIfInBounds_toArray, List.set_cons_zero, List.set_cons_succ, Nat.reduceAdd]
              have f3 := hf 3 (by decide) (by kernel_rfl)
              generalize vals 3 = v3 at *
              subst f3
              clear hf
              go_wp2_with (fail)
              exact RQ.mk rfl ⟨(by first | rfl | (simp [FS27_6]; done) | (simp [FS27_6, *]; done) | (simp [FS27_6, gotV]; done) | (simp [FS27_6, gotV]; omega)), fun h => absurd h (by decide)⟩ (Below.refl _ _)
            | 6, _ =>
              injection ho with ho
              subst ho
              clear hl
              simp only [fillA, List.take, List.drop, put_none, Act.put, List.setIfInBounds_toArray, List.set_cons_zero, List.set_cons_succ, Nat.reduceAdd]
              have f4 := hf 4 (by decide) (by kernel_rfl)
              generalize vals 4 = v4 at *
              subst f4
              have f5 := hf 5 (by decide) (by kernel_rfl)
              generalize vals 5 = v5 at *
              subst f5
              have f3 := hf 3 (by decide) (by kernel_rfl)
              generalize vals 3 = v3 at *
              subst f3
              clear hf
              go_wp2_with (first | (go_at_call 58; refine (c_impl_mayOpen _ _ _ _ _ _ _ (by first | assumption | exact Rds.below hx (by (repeat' (first | exact Below.refl _ _ | assumption | refine Below.setCell ?_ ?_ _ | refine Below.drew ?_ | refine Below.alloc ?_ ?_ _ | refine Below.trans ?_ (Below.mono (by assumption) ?_) | (simp; done) | (simp; omega) | omega)))) rfl (by omega) hok (by omega) (by omega)).mono ?_; rintro e w' ⟨rfl, hb⟩; have hc := cellOf hb; have hf := frozOf hb; have hz := sizeOf hb; try simp at hz))
              exact RQ.mk rfl ⟨(by first | rfl | (simp [FS27_6]; done) | (simp [FS27_6, *]; done) | (simp [FS27_6, gotV]; done) | (simp [FS27_6, gotV]; omega)), fun h => absurd h (by decide)⟩ (Below.refl _ _)
            | 7, _ =>
              injection ho with ho
              subst ho
              clear hl
              simp only [fillA, List.take, List.drop, put_none, Act.put, List.setIfInBounds_toArray, List.set_cons_zero, List.set_cons_succ, Nat.reduceAdd]
              have f6 := hf 6 (by decide) (by kernel_rfl)
              generalize vals 6 = v6 at *
              subst f6
              have f3 := hf 3 (by decide) (by kernel_rfl)
              generalize vals 3 = v3 at *
              subst f3
              clear hf
              go_wp2_with (fail)
              exact RQ.mk rfl ⟨(by first | rfl | (simp [FS27_6]; done) | (simp [FS27_6, *]; done) | (simp [FS27_6, gotV]; done) | (simp [FS27_6, gotV]; omega)), fun h => absurd h (by decide)⟩ (Below.refl _ _)
            | 8, _ =>
              injection ho with ho
              subst ho
              clear hl
              simp only [fillA, List.take, List.drop, put_none, Act.put, List.setIfInBounds_toArray, List.set_cons_zero, List.set_cons_succ, Nat.reduceAdd]
              have f3 := hf 3 (by decide) (by kernel_rfl)
              generalize vals 3 = v3 at *
              subst f3
              have f7 := hf 7 (by decide) (by kernel_rfl)
              generalize vals 7 = v7 at *
              subst f7
              clear hf
              go_wp2_with (fail)
              exact RQ.mk rfl ⟨(by first | rfl | (simp [FS27_6]; done) | (simp [FS27_6, *]; done) | (simp [FS27_6, gotV]; done) | (simp [FS27_6, gotV]; omega)), fun h => absurd h (by decide)⟩ (Below.refl _ _)
            | 9, _ =>
              injection ho with ho
              subst ho
              clear hl
              simp only [fillA, List.take, List.drop, put_none, Act.put, List.setIfInBounds_toArray, List.set_cons_zero, List.set_cons_succ, Nat.reduceAdd]
              have f8 := hf 8 (by decide) (by kernel_rfl)
              generalize vals 8 = v8 at *
              subst f8
              have f6 := hf 6 (by decide) (by kernel_rfl)
              generalize vals 6 = v6 at *
              subst f6
              clear hf
              go_wp2_with (fail)
              exact RQ.mk rfl ⟨(by first | rfl | (simp [FS27_6]; done) | (simp [FS27_6, *]; done) | (simp [FS27_6, gotV]; done) | (simp [FS27_6, gotV]; omega)), fun h => absurd h (by decide)⟩ (Below.refl _ _)
            | 10, _ =>
              injection ho with ho
              subst ho
              clear hl
              simp only [fillA, List.take, List.drop, put_none, Act.put, List.setIfInBounds_toArray, List.set_cons_zero, List.set_cons_succ, Nat.reduceAdd]
              have f9 := hf 9 (by decide) (by kernel_rfl)
              generalize vals 9 = v9 at *
              subst f9
              clear hf
              go_wp2_with (fail)
              exact RQ.mk rfl ⟨(by first | rfl | (simp [FS27_6]; done) | (simp [FS27_6, *]; done) | (simp [FS27_6, gotV]; done) | (simp [FS27_6, gotV]; omega)), fun h => absurd h (by decide)⟩ (Below.refl _ _)
            | 11, _ =>
              injection ho with ho
              subst ho
              clear hl
              simp only [fillA, List.take, List.drop, put_none, Act.put, List.setIfInBounds_toArray, List.set_cons_zero, List.set_cons_succ, Nat.reduceAdd]
              have f10 := hf 10 (by decide) (by kernel_rfl)
              generalize vals 10 = v10 at *
              subst f10
              have f9 := hf 9 (by decide) (by kernel_rfl)
              generalize vals 9 = v9 at *
              subst f9
              clear hf
              go_wp2_with (fail)
              exact RQ.mk rfl ⟨(by first | rfl | (simp [FS27_6]; done) | (simp [FS27_6, *]; done) | (simp [FS27_6, gotV]; done) | (simp [FS27_6, gotV]; omega)), fun h => absurd h (by decide)⟩ (Below.refl _ _)
            | 12, _ =>
              injection ho with ho
              subst ho
              clear hl
              simp only [fillA, List.take, List.drop, put_none, Act.put, List.setIfInBounds_toArray, List.set_cons_zero, List.set_cons_succ, Nat.reduceAdd]
              have f11 := hf 11 (by decide) (by kernel_rfl)
              generalize vals 11 = v11 at *
              subst f11
              have f9 := hf 9 (by decide) (by kernel_rfl)
              generalize vals 9 = v9 at *
              subst f9
              clear hf
              go_wp2_with (fail)
              exact RQ.mk rfl ⟨(by first | rfl | (simp [FS27_6]; done) | (simp [FS27_6, *]; done) | (simp [FS27_6, gotV]; done) | (simp [FS27_6, gotV]; omega)), fun h => absurd h (by decide)⟩ (Below.refl _ _)
            | 13, _ =>
              injection ho with ho
              subst ho
              clear hl
              simp only [fillA, List.take, List.drop, put_none, Act.put, List.setIfInBounds_toArray, List.set_cons_zero, List.set_cons_succ, Nat.reduceAdd]
              have f12 := hf 12 (by decide) (by kernel_rfl)
              generalize vals 12 = v12 at *
              subst f12
              clear hf
              go_wp2_with (fail)
              exact RQ.mk rfl ⟨(by first | rfl | (simp [FS27_6]; done) | (simp [FS27_6, *]; done) | (simp [FS27_6, gotV]; done) | (simp [FS27_6, gotV]; omega)), fun h => absurd h (by decide)⟩ (Below.refl _ _)
            | 14, _ =>
              injection ho with ho
              subst ho
              clear hl
              simp only [fillA, List.take, List.drop, put_none, Act.put, List.setIfInBounds_toArray, List.set_cons_zero, List.set_cons_succ, Nat.reduceAdd]
              have f12 := hf 12 (by decide) (by kernel_rfl)
              generalize vals 12 = v12 at *
              subst f12
              clear hf
              go_wp2_with (fail)
              exact RQ.mk rfl ⟨(by first | rfl | (simp [FS27_6]; done) | (simp [FS27_6, *]; done) | (simp [FS27_6, gotV]; done) | (simp [FS27_6, gotV]; omega)), fun h => absurd h (by decide)⟩ (Below.refl _ _)
            | 15, _ =>
              injection ho with ho
              subst ho
              clear hl
              simp only [fillA, List.take, List.drop, put_none, Act.put, List.setIfInBounds_toArray, List.set_cons_zero, List.set_cons_succ, Nat.reduceAdd]
              have f12 := hf 12 (by decide) (by kernel_rfl)
              generalize vals 12 = v12 at *
              subst f12
              clear hf
              go_wp2_with (fail)
              exact RQ.mk rfl ⟨(by first | rfl | (simp [FS27_6]; done) | (simp [FS27_6, *]; done) | (simp [FS27_6, gotV]; done) | (simp [FS27_6, gotV]; omega)), fun h => absurd h (by decide)⟩ (Below.refl _ _)
            | 16, _ =>
              injection ho with ho
              subst ho
              clear hl
              simp only [fillA, List.take, List.drop, put_none, Act.put, List.setIfInBounds_toArray, List.set_cons_zero, List.set_cons_succ, Nat.reduceAdd]
              have f15 := hf 15 (by decide) (by kernel_rfl)
              generalize vals 15 = v15 at *
              subst f15
              have f12 := hf 12 (by decide) (by kernel_rfl)
              generalize vals 12 = v12 at *
              subst f12
              clear hf
              go_wp2_with (fail)
              exact RQ.mk rfl ⟨(by first | rfl | (simp [FS27_6]; done) | (simp [FS27_6, *]; done) | (simp [FS27_6, gotV]; done) | (simp [FS27_6, gotV]; omega)), fun h => absurd h (by decide)⟩ (Below.refl _ _)
            | 17, _ =>
              injection ho with ho
              subst ho
              clear hl
              simp only [fillA, List.take, List.drop, put_none, Act.put, List.setIfInBounds_toArray, List.set_cons_zero, List.set_cons_succ, Nat.reduceAdd]
              have f14 := hf 14 (by decide) (by kernel_rfl)
              generalize vals 14 = v14 at *
              subst f14
              have f16 := hf 16 (by decide) (by kernel_rfl)
              generalize vals 16 = v16 at *
              subst f16
              have f12 := hf 12 (by decide) (by kernel_rfl)
              generalize vals 12 = v12 at *
              subst f12
              clear hf
              go_wp2_with (fail)
              exact RQ.mk rfl ⟨(by first | rfl | (simp [FS27_6]; done) | (simp [FS27_6, *]; done) | (simp [FS27_6, gotV]; done) | (simp [FS27_6, gotV]; omega)), fun h => absurd h (by decide)⟩ (Below.refl _ _)
            | 18, _ =>
              injection ho with ho
              subst ho
              clear hl
              simp only [fillA, List.take, List.drop, put_none, Act.put, List.setIfInBounds_toArray, List.set_cons_zero, List.set_cons_succ, Nat.reduceAdd]
              have f17 := hf 17 (by decide) (by kernel_rfl)
              generalize vals 17 = v17 at *
              subst f17
              have f12 := hf 12 (by decide) (by kernel_rfl)
              generalize vals 12 = v12 at *
              subst f12
              clear hf
              go_wp2_with (fail)
              exact RQ.mk rfl ⟨(by first | rfl | (simp [FS27_6]; done) | (simp [FS27_6, *]; done) | (simp [FS27_6, gotV]; done) | (simp [FS27_6, gotV]; omega)), fun h => absurd h (by decide)⟩ (Below.refl _ _)
            | 19, _ =>
              injection ho with ho
              subst ho
              clear hl
              simp only [fillA, List.take, List.drop, put_none, Act.put, List.setIfInBounds_toArray, List.set_cons_zero, List.set_cons_succ, Nat.reduceAdd]
              have f13 := hf 13 (by decide) (by kernel_rfl)
              generalize vals 13 = v13 at *
              subst f13
              have f18 := hf 18 (by decide) (by kernel_rfl)
              generalize vals 18 = v18 at *
              subst f18
              have f12 := hf 12 (by decide) (by kernel_rfl)
              generalize vals 12 = v12 at *
              subst f12
              clear hf
              go_wp2_with (fail)
              exact RQ.mk rfl ⟨(by first | rfl | (simp [FS27_6]; done) | (simp [FS27_6, *]; done) | (simp [FS27_6, gotV]; done) | (simp [FS27_6, gotV]; omega)), fun h => absurd h (by decide)⟩ (Below.refl _ _)
            | 20, _ =>
              injection ho with ho
              subst ho
              clear hl
              simp only [fillA, List.take, List.drop, put_none, Act.put, List.setIfInBounds_toArray, List.set_cons_zero, List.set_cons_succ, Nat.reduceAdd]
              have f12 := hf 12 (by decide) (by kernel_rfl)
              generalize vals 12 = v12 at *
              subst f12
              clear hf
              go_wp2_with (fail)
              exact RQ.mk rfl ⟨(by first | rfl | (simp [FS27_6]; done) | (simp [FS27_6, *]; done) | (simp [FS27_6, gotV]; done) | (simp [FS27_6, gotV]; omega)), fun h => absurd h (by decide)⟩ (Below.refl _ _)
            | 21, _ =>
              injection ho with ho
              subst ho
              clear hl
              simp only [fillA, List.take, List.drop, put_none, Act.put, List.setIfInBounds_toArray, List.set_cons_zero, List.set_cons_succ, Nat.reduceAdd]
              have f20 := hf 20 (by decide) (by kernel_rfl)
              generalize vals 20 = v20 at *
              subst f20
              have f12 := hf 12 (by decide) (by kernel_rfl)
              generalize vals 12 = v12 at *
              subst f12
              clear hf
              go_wp2_with (fail)
              exact RQ.mk rfl ⟨(by first | rfl | (simp [FS27_6]; done) | (simp [FS27_6, *]; done) | (simp [FS27_6, gotV]; done) | (simp [FS27_6, gotV]; omega)), fun h => absurd h (by decide)⟩ (Below.refl _ _)
            | 22, _ =>
              injection ho with ho
              subst ho
              clear hl
              simp only [fillA, List.take, List.drop, put_none, Act.put, List.setIfInBounds_toArray, List.set_cons_zero, List.set_cons_succ, Nat.reduceAdd]
              have f19 := hf 19 (by decide) (by kernel_rfl)
              generalize vals 19 = v19 at *
              subst f19
              have f21 := hf 21 (by decide) (by kernel_rfl)
              generalize vals 21 = v21 at *
              subst f21
              have f12 := hf 12 (by decide) (by kernel_rfl)
              generalize vals 12 = v12 at *
              subst f12
              clear hf
              go_wp2_with (fail)
              exact RQ.mk rfl ⟨(by first | rfl | (simp [FS27_6]; done) | (simp [FS27_6, *]; done) | (simp [FS27_6, gotV]; done) | (simp [FS27_6, gotV]; omega)), fun h => absurd h (by decide)⟩ (Below.refl _ _)
            | 23, _ =>
              injection ho with ho
              subst ho
              clear hl
              simp only [fillA, List.take, List.drop, put_none, Act.put, List.setIfInBounds_toArray, List.set_cons_zero, List.set_cons_succ, Nat.reduceAdd]
              have f12 := hf 12 (by decide) (by kernel_rfl)
              generalize vals 12 = v12 at *
              subst f12
              have f22 := hf 22 (by decide) (by kernel_rfl)
              generalize vals 22 = v22 at *
              subst f22
              have f9 := hf 9 (by decide) (by kernel_rfl)
              generalize vals 9 = v9 at *
              subst f9
              clear hf
              go_wp2_with (fail)
              exact RQ.mk rfl ⟨(by first | rfl | (simp [FS27_6]; done) | (simp [FS27_6, *]; done) | (simp [FS27_6, gotV]; done) | (simp [FS27_6, gotV]; omega)), fun h => absurd h (by decide)⟩ (Below.refl _ _)
            | 24, _ =>
              injection ho with ho
              subst ho
              clear hl
              simp only [fillA, List.take, List.drop, put_none, Act.put, List.setIfInBounds_toArray, List.set_cons_zero, List.set_cons_succ, Nat.reduceAdd]
              have f9 := hf 9 (by decide) (by kernel_rfl)
              generalize vals 9 = v9 at *
              subst f9
              have f23 := hf 23 (by decide) (by kernel_rfl)
              generalize vals 23 = v23 at *
              subst f23
              clear hf
              go_wp2_with (fail)
              exact RQ.mk rfl ⟨(by first | rfl | (simp [FS27_6]; done) | (simp [FS27_6, *]; done) | (simp [FS27_6, gotV]; done) | (simp [FS27_6, gotV]; omega)), fun h => absurd h (by decide)⟩ (Below.refl _ _)
            | m + 25, h => exact absurd h (by omega)
          · intro vals w1 hb1 hf hd
            simp only [fillA, List.take, List.drop, put_none, Act.put, List.setIfInBounds_toArray, List.set_cons_zero, List.set_cons_succ, Nat.reduceAdd]
            clear hd
            have f0 := hf 0 (by decide)
            generalize vals 0 = v0 at *
            subst f0
            have f1 := hf 1 (by decide)
            generalize vals 1 = v1 at *
            subst f1
            have f2 := hf 2 (by decide)
            generalize vals 2 = v2 at *
            subst f2
            have f3 := hf 3 (by decide)
            generalize vals 3 = v3 at *
            subst f3
            have f4 := hf 4 (by decide)
            generalize vals 4 = v4 at *
            subst f4
            have f5 := hf 5 (by decide)
            generalize vals 5 = v5 at *
            subst f5
            have f6 := hf 6 (by decide)
            generalize vals 6 = v6 at *
            subst f6
            have f7 := hf 7 (by decide)
            generalize vals 7 = v7 at *
            subst f7
            have f8 := hf 8 (by decide)
            generalize vals 8 = v8 at *
            subst f8
            have f9 := hf 9 (by decide)
            generalize vals 9 = v9 at *
            subst f9
            have f10 := hf 10 (by decide)
            generalize vals 10 = v10 at *
            subst f10
            have f11 := hf 11 (by decide)
            generalize vals 11 = v11 at *
            subst f11
            have f12 := hf 12 (by decide)
            generalize vals 12 = v12 at *
            subst f12
            have f13 := hf 13 (by decide)
            generalize vals 13 = v13 at *
            subst f13
            have f14 := hf 14 (by decide)
            generalize vals 14 = v14 at *
            subst f14
            have f15 := hf 15 (by decide)
            generalize vals 15 = v15 at *
            subst f15
            have f16 := hf 16 (by decide)
            generalize vals 16 = v16 at *
            subst f16
            have f17 := hf 17 (by decide)
            generalize vals 17 = v17 at *
            subst f17
            have f18 := hf 18 (by decide)
            generalize vals 18 = v18 at *
            subst f18
            have f19 := hf 19 (by decide)
            generalize vals 19 = v19 at *
            subst f19
            have f20 := hf 20 (by decide)
            generalize vals 20 = v20 at *
            subst f20
            have f21 := hf 21 (by decide)
            generalize vals 21 = v21 at *
            subst f21
            have f22 := hf 22 (by decide)
            generalize vals 22 = v22 at *
            subst f22
            have f23 := hf 23 (by decide)
            generalize vals 23 = v23 at *
            subst f23
            have f24 := hf 24 (by decide)
            generalize vals 24 = v24 at *
            subst f24
            clear hf
            have hc1 := cellOf hb1
            have hf1 := frozOf hb1
            have hz1 := sizeOf hb1
            try simp at hz1
            go_wp2_with (fail)
            go_ret
            exact ⟨ret_bool (by rw [HB.out (by rw [HV.out, HG.out])]), by (repeat' (first | exact Below.refl _ _ | assumption | refine Below.setCell ?_ ?_ _ | refine Below.drew ?_ | refine Below.alloc ?_ ?_ _ | refine Below.trans ?_ (Below.mono (by assumption) ?_) | (simp; done) | (simp; omega) | omega))⟩
        have hxm := minB_bd hm
        by_cases hg : mayB d xs x = true
        · have HG := hid hg
          go_wp2_with (fail)
          refine wp_region_w (n := 25) [] [] (FS27_6_28 d A xs x x bx ox 0 xs.length pl.length cap capp w) rfl (by kernel_rfl) (fun _ _ d _ _ h => by cases d <;> exact h) ?_ ?_ ?_ ?_ ?_ ?_
          · intro iq
            match iq with
            | 0 | 1 | 2 | 3 | 4 | 5 | 6 | 7 | 8 | 9 | 10 | 11 | 12 | 13 | 14 | 15 | 16 | 17 | 18 | 19 | 20 | 21 | 22 | 23 | 24 => exact Stable.const _
            | n + 25 => exact Stable.const _
          · intro iq hi
            exact absurd hi (by simp)
          · intro iq hi
            exact absurd hi (by simp)
          · intro iq o hi hl ho vals w1 hb1 hf
            exact absurd hl (by simp)
          · intro iq o hi hl ho vals w1 hb1 hf
            match iq, hi with
            | 0, _ =>
              injection ho with ho
              subst ho
              clear hl
              simp only [fillA, List.take, List.drop, put_none, Act.put, List.setIfInBounds_toArray, List.set_cons_zero, List.set_cons_succ, Nat.reduceAdd]
              clear hf
              go_wp2_with (fail)
              exact RQ.mk rfl ⟨(by first | rfl | (simp [FS27_6_28]; done) | (simp [FS27_6_28, *]; done) | (simp [FS27_6_28, gotV]; done) | (simp [FS27_6_28, gotV]; omega)), fun h => absurd h (by decide)⟩ (Below.refl _ _)
            | 1, _ =>
              injection ho with ho
              subst ho
              clear hl
              simp only [fillA, List.take, List.drop, put_none, Act.put, List.setIfInBounds_toArray, List.set_cons_zero, List.set_cons_succ, Nat.reduceAdd]
              have f0 := hf 0 (by decide) (by kernel_rfl)
              generalize vals 0 = v0 at *
              subst f0
              clear hf
              have hc1 := cellOf hb1
              have hf1 := frozOf hb1
              have hz1 := sizeOf hb1
              try simp at hz1
              go_wp2_with (first | (go_at_call 57; refine (c_impl_isMinute _ _ ).mono ?_; rintro e w' ⟨rfl, hb⟩; have hc := cellOf hb; have hf := frozOf hb; have hz := sizeOf hb; try simp at hz))
              exact RQ.mk rfl ⟨(by first | rfl | (simp [FS27_6_28]; done) | (simp [FS27_6_28, *]; done) | (simp [FS27_6_28, gotV]; done) | (simp [FS27_6_28, gotV]; omega)), fun h => absurd h (by decide)⟩ (by (repeat' (first | exact Below.refl _ _ | assumption | refine Below.setCell ?_ ?_ _ | refine Below.drew ?_ | refine Below.alloc ?_ ?_ _ | refine Below.trans ?_ (Below.mono (by assumption) ?_) | (simp; done) | (simp; omega) | omega)))
            | 2, _ =>
              injection ho with ho
              subst ho
              clear hl
              simp only [fillA, List.take, List.drop, put_none, Act.put, List.setIfInBounds_toArray, List.set_cons_zero, List.set_cons_succ, Nat.reduceAdd]
              have f1 := hf 1 (by decide) (by kernel_rfl)
              generalize vals 1 = v1 at *
              subst f1
              clear hf
              go_wp2_with (fail)
              exact RQ.mk rfl ⟨(by first | rfl | (simp [FS27_6_28]; done) | (simp [FS27_6_28, *]; done) | (simp [FS27_6_28, gotV]; done) | (simp [FS27_6_28, gotV]; omega)), fun h => absurd h (by decide)⟩ (Below.refl _ _)
            | 3, _ =>
              injection ho with ho
              subst ho
              clear hl
              simp only [fillA, List.take, List.drop, put_none, Act.put, List.setIfInBounds_toArray, List.set_cons_zero, List.set_cons_succ, Nat.reduceAdd]
              have f2 := hf 2 (by decide) (by kernel_rfl)
              generalize vals 2 = v2 at *
              subst f2
              have f1 := hf 1 (by decide) (by kernel_rfl)
              generalize vals 1 = v1 at *
              subst f1
              clear hf
              go_wp2_with (fail)
              exact RQ.mk rfl ⟨(by first | rfl | (simp [FS27_6_28]; done) | (simp [FS27_6_28, *]; done) | (simp [FS27_6_28, gotV]; done) | (simp [FS27_6_28, gotV]; omega)), fun h => absurd h (by decide)⟩ (Below.refl _ _)
            | 4, _ =>
              injection ho with ho
              subst ho
              clear hl
              simp only [fillA, List.take, List.drop, put_none, Act.put, List.setIfInBounds_toArray, List.set_cons_zero, List.set_cons_succ, Nat.reduceAdd]
              have f3 := hf 3 (by decide) (by kernel_rfl)
              generalize vals 3 = v3 at *
              subst f3
              clear hf
              have hc1 := cellOf hb1
              have hf1 := frozOf hb1
              have hz1 := sizeOf hb1
              try simp at hz1
              go_wp2_with (fail)
              exact RQ.mk rfl ⟨(by first | rfl | (simp [FS27_6_28]; done) | (simp [FS27_6_28, *]; done) | (simp [FS27_6_28, gotV]; done) | (simp [FS27_6_28, gotV]; omega)), fun h => absurd h (by decide)⟩ (Below.refl _ _)
            | 5, _ =>
              injection ho with ho
              subst ho
              clear hl
              simp only [fillA, List.take, List.drop, put_none, Act.put, List.setIfInBounds_toArray, List.set_cons_zero, List.set_cons_succ, Nat.reduceAdd]
              have f3 := hf 3 (by decide) (by kernel_rfl)
              generalize vals 3 = v3 at *
              subst f3
              clear hf
              go_wp2_with (fail)
              exact RQ.mk rfl ⟨(by first | rfl | (simp [FS27_6_28]; done) | (simp [FS27_6_28, *]; done) | (simp [FS27_6_28, gotV]; done) | (simp [FS27_6_28, gotV]; omega)), fun h => absurd h (by decide)⟩ (Below.refl _ _)
            | 6, _ =>
              injection ho with ho
              subst ho
              clear hl
              simp only [fillA, List.take, List.drop, put_none, Act.put, List.setIfInBounds_toArray, List.set_cons_zero, List.set_cons_succ, Nat.reduceAdd]
              have f4 := hf 4 (by decide) (by kernel_rfl)
              generalize vals 4 = v4 at *
              subst f4
              have f5 := hf 5 (by decide) (by kernel_rfl)
              generalize vals 5 = v5 at *
              subst f5
              have f3 := hf 3 (by decide) (by kernel_rfl)
              generalize vals 3 = v3 at *
              subst f3
              clear hf
              have hc1 := cellOf hb1
              have hf1 := frozOf hb1
              have hz1 := sizeOf hb1
              try simp at hz1
              go_wp2_with (first | (go_at_call 58; refine (c_impl_mayOpen _ _ _ _ _ _ _ (by first | assumption | exact Rds.below hx (by (repeat' (first | exact Below.refl _ _ | assumption | refine Below.setCell ?_ ?_ _ | refine Below.drew ?_ | refine Below.alloc ?_ ?_ _ | refine Below.trans ?_ (Below.mono (by assumption) ?_) | (simp; done) | (simp; omega) | omega)))) rfl (by omega) hok (by omega) (by omega)).mono ?_; rintro e w' ⟨rfl, hb⟩; have hc := cellOf hb; have hf := frozOf hb; have hz := sizeOf hb; try simp at hz))
              exact RQ.mk rfl ⟨(by first | rfl | (simp [FS27_6_28]; done) | (simp [FS27_6_28, *]; done) | (simp [FS27_6_28, gotV]; done) | (simp [FS27_6_28, gotV]; omega)), fun h => absurd h (by decide)⟩ (by (repeat' (first | exact Below.refl _ _ | assumption | refine Below.setCell ?_ ?_ _ | refine Below.drew ?_ | refine Below.alloc ?_ ?_ _ | refine Below.trans ?_ (Below.mono (by assumption) ?_) | (simp; done) | (simp; omega) | omega)))
            | 7, _ =>
              injection ho with ho
              subst ho
              clear hl
              simp only [fillA, List.take, List.drop, put_none, Act.put, List.setIfInBounds_toArray, List.set_cons_zero, List.set_cons_succ, Nat.reduceAdd]
              have f6 := hf 6 (by decide) (by kernel_rfl)
              generalize vals 6 = v6 at *
              subst f6
              have f3 := hf 3 (by decide) (by kernel_rfl)
              generalize vals 3 = v3 at *
              subst f3
              clear hf
              go_wp2_with (fail)
              exact RQ.mk rfl ⟨(by first | rfl | (simp [FS27_6_28]; done) | (simp [FS27_6_28, *]; done) | (simp [FS27_6_28, gotV]; done) | (simp [FS27_6_28, gotV]; omega)), fun h => absurd h (by decide)⟩ (Below.refl _ _)
            | 8, _ =>
              injection ho with ho
              subst ho
              clear hl
              simp only [fillA, List.take, List.drop, put_none, Act.put, List.setIfInBounds_toArray, List.set_cons_zero, List.set_cons_succ, Nat.reduceAdd]
              have f3 := hf 3 (by decide) (by kernel_rfl)
              generalize vals 3 = v3 at *
              subst f3
              have f7 := hf 7 (by decide) (by kernel_rfl)
              generalize vals 7 = v7 at *
              subst f7
              clear hf
              go_wp2_with (fail)
              exact RQ.mk rfl ⟨(by first | rfl | (simp [FS27_6_28]; done) | (simp [FS27_6_28, *]; done) | (simp [FS27_6_28, gotV]; done) | (simp [FS27_6_28, gotV]; omega)), fun h => absurd h (by decide)⟩ (Below.refl _ _)
            | 9, _ =>
              injection ho with ho
              subst ho
              clear hl
              simp only [fillA, List.take, List.drop, put_none, Act.put, List.setIfInBounds_toArray, List.set_cons_zero, List.set_cons_succ, Nat.reduceAdd]
              have f8 := hf 8 (by decide) (by kernel_rfl)
              generalize vals 8 = v8 at *
              subst f8
              have f6 := hf 6 (by decide) (by kernel_rfl)
              generalize vals 6 = v6 at *
              subst f6
              clear hf
              go_wp2_with (fail)
              exact RQ.mk rfl ⟨(by first | rfl | (simp [FS27_6_28]; done) | (simp [FS27_6_28, *]; done) | (simp [FS27_6_28, gotV]; done) | (simp [FS27_6_28, gotV]; omega)), fun h => absurd h (by decide)⟩ (Below.refl _ _)
            | 10, _ =>
              injection ho with ho
              subst ho
              clear hl
              simp only [fillA, List.take, List.drop, put_none, Act.put, List.setIfInBounds_toArray, List.set_cons_zero, List.set_cons_succ, Nat.reduceAdd]
              have f9 := hf 9 (by decide) (by kernel_rfl)
              generalize vals 9 = v9 at *
              subst f9
              clear hf
              go_wp2_with (fail)
              exact RQ.mk rfl ⟨(by first | rfl | (simp [FS27_6_28]; done) | (simp [FS27_6_28, *]; done) | (simp [FS27_6_28, gotV]; done) | (simp [FS27_6_28, gotV]; omega)), fun h => absurd h (by decide)⟩ (Below.refl _ _)
            | 11, _ =>
              injection ho with ho
              subst ho
              clear hl
              simp only [fillA, List.take, List.drop, put_none, Act.put, List.setIfInBounds_toArray, List.set_cons_zero, List.set_cons_succ, Nat.reduceAdd]
              have f10 := hf 10 (by decide) (by kernel_rfl)
              generalize vals 10 = v10 at *
              subst f10
              have f9 := hf 9 (by decide) (by kernel_rfl)
              generalize vals 9 = v9 at *
              subst f9
              clear hf
              go_wp2_with (fail)
              exact RQ.mk rfl ⟨(by first | rfl | (simp [FS27_6_28]; done) | (simp [FS27_6_28, *]; done) | (simp [FS27_6_28, gotV]; done) | (simp [FS27_6_28, gotV]; omega)), fun h => absurd h (by decide)⟩ (Below.refl _ _)
            | 12, _ =>
              injection ho with ho
              subst ho
              clear hl
              simp only [fillA, List.take, List.drop, put_none, Act.put, List.setIfInBounds_toArray, List.set_cons_zero, List.set_cons_succ, Nat.reduceAdd]
              have f11 := hf 11 (by decide) (by kernel_rfl)
              generalize vals 11 = v11 at *
              subst f11
              have f9 := hf 9 (by decide) (by kernel_rfl)
              generalize vals 9 = v9 at *
              subst f9
              clear hf
              go_wp2_with (fail)
              exact RQ.mk rfl ⟨(by first | rfl | (simp [FS27_6_28]; done) | (simp [FS27_6_28, *]; done) | (simp [FS27_6_28, gotV]; done) | (simp [FS27_6_28, gotV]; omega)), fun h => absurd h (by decide)⟩ (Below.refl _ _)
            | 13, _ =>
              injection ho with ho
              subst ho
              clear hl
              simp only [fillA, List.take, List.drop, put_none, Act.put, List.setIfInBounds_toArray, List.set_cons_zero, List.set_cons_succ, Nat.reduceAdd]
              have f12 := hf 12 (by decide) (by kernel_rfl)
              generalize vals 12 = v12 at *
              subst f12
              clear hf
              go_wp2_with (fail)
              exact RQ.mk rfl ⟨(by first | rfl | (simp [FS27_6_28]; done) | (simp [FS27_6_28, *]; done) | (simp [FS27_6_28, gotV]; done) | (simp [FS27_6_28, gotV]; omega)), fun h => absurd h (by decide)⟩ (Below.refl _ _)
            | 14, _ =>
              injection ho with ho
              subst ho
              clear hl
              simp only [fillA, List.take, List.drop, put_none, Act.put, List.setIfInBounds_toArray, List.set_cons_zero, List.set_cons_succ, Nat.reduceAdd]
              have f12 := hf 12 (by decide) (by kernel_rfl)
              generalize vals 12 = v12 at *
              subst f12
              clear hf
              go_wp2_with (fail)
              exact RQ.mk rfl ⟨(by first | rfl | (simp [FS27_6_28]; done) | (simp [FS27_6_28, *]; done) | (simp [FS27_6_28, gotV]; done) | (simp [FS27_6_28, gotV]; omega)), fun h => absurd h (by decide)⟩ (Below.refl _ _)
            | 15, _ =>
              injection ho with ho
              subst ho
              clear hl
              simp only [fillA, List.take, List.drop, put_none, Act.put, List.setIfInBounds_toArray, List.set_cons_zero, List.set_cons_succ, Nat.reduceAdd]
              have f12 := hf 12 (by decide) (by kernel_rfl)
              generalize vals 12 = v12 at *
              subst f12
              clear hf
              go_wp2_with (fail)
              exact RQ.mk rfl ⟨(by first | rfl | (simp [FS27_6_28]; done) | (simp [FS27_6_28, *]; done) | (simp [FS27_6_28, gotV]; done) | (simp [FS27_6_28, gotV]; omega)), fun h => absurd h (by decide)⟩ (Below.refl _ _)
            | 16, _ =>
              injection ho with ho
              subst ho
              clear hl
              simp only [fillA, List.take, List.drop, put_none, Act.put, List.setIfInBounds_toArray, List.set_cons_zero, List.set_cons_succ, Nat.reduceAdd]
              have f15 := hf 15 (by decide) (by kernel_rfl)
              generalize vals 15 = v15 at *
              subst f15
              have f12 := hf 12 (by decide) (by kernel_rfl)
              generalize vals 12 = v12 at *
              subst f12
              clear hf
              go_wp2_with (fail)
              exact RQ.mk rfl ⟨(by first | rfl | (simp [FS27_6_28]; done) | (simp [FS27_6_28, *]; done) | (simp [FS27_6_28, gotV]; done) | (simp [FS27_6_28, gotV]; omega)), fun h => absurd h (by decide)⟩ (Below.refl _ _)
            | 17, _ =>
              injection ho with ho
              subst ho
              clear hl
              simp only [fillA, List.take, List.drop, put_none, Act.put, List.setIfInBounds_toArray, List.set_cons_zero, List.set_cons_succ, Nat.reduceAdd]
              have f14 := hf 14 (by decide) (by kernel_rfl)
              generalize vals 14 = v14 at *
              subst f14
              have f16 := hf 16 (by decide) (by kernel_rfl)
              generalize vals 16 = v16 at *
              subst f16
              have f12 := hf 12 (by decide) (by kernel_rfl)
              generalize vals 12 = v12 at *
              subst f12
              clear hf
              go_wp2_with (fail)
              exact RQ.mk rfl ⟨(by first | rfl | (simp [FS27_6_28]; done) | (simp [FS27_6_28, *]; done) | (simp [FS27_6_28, gotV]; done) | (simp [FS27_6_28, gotV]; omega)), fun h => absurd h (by decide)⟩ (Below.refl _ _)
            | 18, _ =>
              injection ho with ho
              subst ho
              clear hl
              simp only [fillA, List.take, List.drop, put_none, Act.put, List.setIfInBounds_toArray, List.set_cons_zero, List.set_cons_succ, Nat.reduceAdd]
              have f17 := hf 17 (by decide) (by kernel_rfl)
              generalize vals 17 = v17 at *
              subst f17
              have f12 := hf 12 (by decide) (by kernel_rfl)
              generalize vals 12 = v12 at *
              subst f12
              clear hf
              go_wp2_with (fail)
              exact RQ.mk rfl ⟨(by first | rfl | (simp [FS27_6_28]; done) | (simp [FS27_6_28, *]; done) | (simp [FS27_6_28, gotV]; done) | (simp [FS27_6_28, gotV]; omega)), fun h => absurd h (by decide)⟩ (Below.refl _ _)
            | 19, _ =>
              injection ho with ho
              subst ho
              clear hl
              simp only [fillA, List.take, List.drop, put_none, Act.put, List.setIfInBounds_toArray, List.set_cons_zero, List.set_cons_succ, Nat.reduceAdd]
              have f13 := hf 13 (by decide) (by kernel_rfl)
              generalize vals 13 = v13 at *
              subst f13
              have f18 := hf 18 (by decide) (by kernel_rfl)
              generalize vals 18 = v18 at *
              subst f18
              have f12 := hf 12 (by decide) (by kernel_rfl)
              generalize vals 12 = v12 at *
              subst f12
              clear hf
              go_wp2_with (fail)
              exact RQ.mk rfl ⟨(by first | rfl | (simp [FS27_6_28]; done) | (simp [FS27_6_28, *]; done) | (simp [FS27_6_28, gotV]; done) | (simp [FS27_6_28, gotV]; omega)), fun h => absurd h (by decide)⟩ (Below.refl _ _)
            | 20, _ =>
              injection ho with ho
              subst ho
              clear hl
              simp only [fillA, List.take, List.drop, put_none, Act.put, List.setIfInBounds_toArray, List.set_cons_zero, List.set_cons_succ, Nat.reduceAdd]
              have f12 := hf 12 (by decide) (by kernel_rfl)
              generalize vals 12 = v12 at *
              subst f12
              clear hf
              go_wp2_with (fail)
              exact RQ.mk rfl ⟨(by first | rfl | (simp [FS27_6_28]; done) | (simp [FS27_6_28, *]; done) | (simp [FS27_6_28, gotV]; done) | (simp [FS27_6_28, gotV]; omega)), fun h => absurd h (by decide)⟩ (Below.refl _ _)
            | 21, _ =>
              injection ho with ho
              subst ho
              clear hl
              simp only [fillA, List.take, List.drop, put_none, Act.put, List.setIfInBounds_toArray, List.set_cons_zero, List.set_cons_succ, Nat.reduceAdd]
              have f20 := hf 20 (by decide) (by kernel_rfl)
              generalize vals 20 = v20 at *
              subst f20
              have f12 := hf 12 (by decide) (by kernel_rfl)
              generalize vals 12 = v12 at *
              subst f12
              clear hf
              go_wp2_with (fail)
              exact RQ.mk rfl ⟨(by first | rfl | (simp [FS27_6_28]; done) | (simp [FS27_6_28, *]; done) | (simp [FS27_6_28, gotV]; done) | (simp [FS27_6_28, gotV]; omega)), fun h => absurd h (by decide)⟩ (Below.refl _ _)
            | 22, _ =>
              injection ho with ho
              subst ho
              clear hl
              simp only [fillA, List.take, List.drop, put_none, Act.put, List.setIfInBounds_toArray, List.set_cons_zero, List.set_cons_succ, Nat.reduceAdd]
              have f19 := hf 19 (by decide) (by kernel_rfl)
              generalize vals 19 = v19 at *
              subst f19
              have f21 := hf 21 (by decide) (by kernel_rfl)
              generalize vals 21 = v21 at *
              subst f21
              have f12 := hf 12 (by decide) (by kernel_rfl)
              generalize vals 12 = v12 at *
              subst f12
              clear hf
              go_wp2_with (fail)
              exact RQ.mk rfl ⟨(by first | rfl | (simp [FS27_6_28]; done) | (simp [FS27_6_28, *]; done) | (simp [FS27_6_28, gotV]; done) | (simp [FS27_6_28, gotV]; omega)), fun h => absurd h (by decide)⟩ (Below.refl _ _)
            | 23, _ =>
              injection ho with ho
              subst ho
              clear hl
              simp only [fillA, List.take, List.drop, put_none, Act.put, List.setIfInBounds_toArray, List.set_cons_zero, List.set_cons_succ, Nat.reduceAdd]
              have f12 := hf 12 (by decide) (by kernel_rfl)
              generalize vals 12 = v12 at *
              subst f12
              have f22 := hf 22 (by decide) (by kernel_rfl)
              generalize vals 22 = v22 at *
              subst f22
              have f9 := hf 9 (by decide) (by kernel_rfl)
              generalize vals 9 = v9 at *
              subst f9
              clear hf
              go_wp2_with (fail)
              exact RQ.mk rfl ⟨(by first | rfl | (simp [FS27_6_28]; done) | (simp [FS27_6_28, *]; done) | (simp [FS27_6_28, gotV]; done) | (simp [FS27_6_28, gotV]; omega)), fun h => absurd h (by decide)⟩ (Below.refl _ _)
            | 24, _ =>
              injection ho with ho
              subst ho
              clear hl
              simp only [fillA, List.take, List.drop, put_none, Act.put, List.setIfInBounds_toArray, List.set_cons_zero, List.set_cons_succ, Nat.reduceAdd]
              have f9 := hf 9 (by decide) (by kernel_rfl)
              generalize vals 9 = v9 at *
              subst f9
              have f23 := hf 23 (by decide) (by kernel_rfl)
              generalize vals 23 = v23 at *
              subst f23
              clear hf
              go_wp2_with (fail)
              exact RQ.mk rfl ⟨(by first | rfl | (simp [FS27_6_28]; done) | (simp [FS27_6_28, *]; done) | (simp [FS27_6_28, gotV]; done) | (simp [FS27_6_28, gotV]; omega)), fun h => absurd h (by decide)⟩ (Below.refl _ _)
            | m + 25, h => exact absurd h (by omega)
          · intro vals w1 hb1 hf hd
            simp only [fillA, List.take, List.drop, put_none, Act.put, List.setIfInBounds_toArray, List.set_cons_zero, List.set_cons_succ, Nat.reduceAdd]
            clear hd
            have f0 := hf 0 (by decide)
            generalize vals 0 = v0 at *
            subst f0
            have f1 := hf 1 (by decide)
            generalize vals 1 = v1 at *
            subst f1
            have f2 := hf 2 (by decide)
            generalize vals 2 = v2 at *
            subst f2
            have f3 := hf 3 (by decide)
            generalize vals 3 = v3 at *
            subst f3
            have f4 := hf 4 (by decide)
            generalize vals 4 = v4 at *
            subst f4
            have f5 := hf 5 (by decide)
            generalize vals 5 = v5 at *
            subst f5
            have f6 := hf 6 (by decide)
            generalize vals 6 = v6 at *
            subst f6
            have f7 := hf 7 (by decide)
            generalize vals 7 = v7 at *
            subst f7
            have f8 := hf 8 (by decide)
            generalize vals 8 = v8 at *
            subst f8
            have f9 := hf 9 (by decide)
            generalize vals 9 = v9 at *
            subst f9
            have f10 := hf 10 (by decide)
            generalize vals 10 = v10 at *
            subst f10
            have f11 := hf 11 (by decide)
            generalize vals 11 = v11 at *
            subst f11
            have f12 := hf 12 (by decide)
            generalize vals 12 = v12 at *
            subst f12
            have f13 := hf 13 (by decide)
            generalize vals 13 = v13 at *
            subst f13
            have f14 := hf 14 (by decide)
            generalize vals 14 = v14 at *
            subst f14
            have f15 := hf 15 (by decide)
            generalize vals 15 = v15 at *
            subst f15
            have f16 := hf 16 (by decide)
            generalize vals 16 = v16 at *
            subst f16
            have f17 := hf 17 (by decide)
            generalize vals 17 = v17 at *
            subst f17
            have f18 := hf 18 (by decide)
            generalize vals 18 = v18 at *
            subst f18
            have f19 := hf 19 (by decide)
            generalize vals 19 = v19 at *
            subst f19
            have f20 := hf 20 (by decide)
            generalize vals 20 = v20 at *
            subst f20
            have f21 := hf 21 (by decide)
            generalize vals 21 = v21 at *
            subst f21
            have f22 := hf 22 (by decide)
            generalize vals 22 = v22 at *
            subst f22
            have f23 := hf 23 (by decide)
            generalize vals 23 = v23 at *
            subst f23
            have f24 := hf 24 (by decide)
            generalize vals 24 = v24 at *
            subst f24
            clear hf
            have hc1 := cellOf hb1
            have hf1 := frozOf hb1
            have hz1 := sizeOf hb1
            try simp at hz1
            go_wp2_with (fail)
            go_roundw
            case rel =>
              refine ⟨1, by omega, by go_num, fun j hj => ?_, ?_, ?_, ?_, ?_, by (repeat' (first | exact Below.refl _ _ | assumption | refine Below.setCell ?_ ?_ _ | refine Below.drew ?_ | refine Below.alloc ?_ ?_ _ | refine Below.trans ?_ (Below.mono (by assumption) ?_) | (simp; done) | (simp; omega) | omega))⟩
              · obtain rfl : j = 0 := by omega
                rw [HV.out, HG.out]
              all_goals first | (simp [go_sem, ↓IntWalk.iteOmega, *]; done) | (simp [go_sem, ↓IntWalk.iteOmega, *]; omega) | omega
            case measure => simp [intOf]; omega
        · have HG : Hid (mayB d xs x = false) := by show _ = _; simpa using hg
          clear hg
          have hg := HG.out
          go_wp2_with (fail)
          refine wp_region_w (n := 25) [] [] (FS27_6_29 d A xs x x bx ox 0 xs.length pl.length cap capp w) rfl (by kernel_rfl) (fun _ _ d _ _ h => by cases d <;> exact h) ?_ ?_ ?_ ?_ ?_ ?_
          · intro iq
            match iq with
            | 0 | 1 | 2 | 3 | 4 | 5 | 6 | 7 | 8 | 9 | 10 | 11 | 12 | 13 | 14 | 15 | 16 | 17 | 18 | 19 | 20 | 21 | 22 | 23 | 24 => exact Stable.const _
            | n + 25 => exact Stable.const _
          · intro iq hi
            exact absurd hi (by simp)
          · intro iq hi
            exact absurd hi (by simp)
          · intro iq o hi hl ho vals w1 hb1 hf
            exact absurd hl (by simp)
          · intro iq o hi hl ho vals w1 hb1 hf
            match iq, hi with
            | 0, _ =>
              injection ho with ho
              subst ho
              clear hl
              simp only [fillA, List.take, List.drop, put_none, Act.put, List.setIfInBounds_toArray, List.set_cons_zero, List.set_cons_succ, Nat.reduceAdd]
              clear hf
              go_wp2_with (fail)
              exact RQ.mk rfl ⟨(by first | rfl | (simp [FS27_6_29]; done) | (simp [FS27_6_29, *]; done) | (simp [FS27_6_29, gotV]; done) | (simp [FS27_6_29, gotV]; omega)), fun h => absurd h (by decide)⟩ (Below.refl _ _)
            | 1, _ =>
              injection ho with ho
              subst ho
              clear hl
              simp only [fillA, List.take, List.drop, put_none, Act.put, List.setIfInBounds_toArray, List.set_cons_zero, List.set_cons_succ, Nat.reduceAdd]
              have f0 := hf 0 (by decide) (by kernel_rfl)
              generalize vals 0 = v0 at *
              subst f0
              clear hf
              have hc1 := cellOf hb1
              have hf1 := frozOf hb1
              have hz1 := sizeOf hb1
              try simp at hz1
              go_wp2_with (first | (go_at_call 57; refine (c_impl_isMinute _ _ ).mono ?_; rintro e w' ⟨rfl, hb⟩; have hc := cellOf hb; have hf := frozOf hb; have hz := sizeOf hb; try simp at hz))
              exact RQ.mk rfl ⟨(by first | rfl | (simp [FS27_6_29]; done) | (simp [FS27_6_29, *]; done) | (simp [FS27_6_29, gotV]; done) | (simp [FS27_6_29, gotV]; omega)), fun h => absurd h (by decide)⟩ (by (repeat' (first | exact Below.refl _ _ | assumption | refine Below.setCell ?_ ?_ _ | refine Below.drew ?_ | refine Below.alloc ?_ ?_ _ | refine Below.trans ?_ (Below.mono (by assumption) ?_) | (simp; done) | (simp; omega) | omega)))
            | 2, _ =>
              injection ho with ho
              subst ho
              clear hl
              simp only [fillA, List.take, List.drop, put_none, Act.put, List.setIfInBounds_toArray, List.set_cons_zero, List.set_cons_succ, Nat.reduceAdd]
              have f1 := hf 1 (by decide) (by kernel_rfl)
              generalize vals 1 = v1 at *
              subst f1
              clear hf
              go_wp2_with (fail)
              exact RQ.mk rfl ⟨(by first | rfl | (simp [FS27_6_29]; done) | (simp [FS27_6_29, *]; done) | (simp [FS27_6_29, gotV]; done) | (simp [FS27_6_29, gotV]; omega)), fun h => absurd h (by decide)⟩ (Below.refl _ _)
            | 3, _ =>
              injection ho with ho
              subst ho
              clear hl
              simp only [fillA, List.take, List.drop, put_none, Act.put, List.setIfInBounds_toArray, List.set_cons_zero, List.set_cons_succ, Nat.reduceAdd]
              have f2 := hf 2 (by decide) (by kernel_rfl)
              generalize vals 2 = v2 at *
              subst f2
              have f1 := hf 1 (by decide) (by kernel_rfl)
              generalize vals 1 = v1 at *
              subst f1
              clear hf
              go_wp2_with (fail)
              exact RQ.mk rfl ⟨(by first | rfl | (simp [FS27_6_29]; done) | (simp [FS27_6_29, *]; done) | (simp [FS27_6_29, gotV]; done) | (simp [FS27_6_29, gotV]; omega)), fun h => absurd h (by decide)⟩ (Below.refl _ _)
            | 4, _ =>
              injection ho with ho
              subst ho
              clear hl
              simp only [fillA, List.take, List.drop, put_none, Act.put, List.setIfInBounds_toArray, List.set_cons_zero, List.set_cons_succ, Nat.reduceAdd]
              have f3 := hf 3 (by decide) (by kernel_rfl)
              generalize vals 3 = v3 at *
              subst f3
              clear hf
              have hc1 := cellOf hb1
              have hf1 := frozOf hb1
              have hz1 := sizeOf hb1
              try simp at hz1
              go_wp2_with (fail)
              exact RQ.mk rfl ⟨(by first | rfl | (simp [FS27_6_29]; done) | (simp [FS27_6_29, *]; done) | (simp [FS27_6_29, gotV]; done) | (simp [FS27_6_29, gotV]; omega)), fun h => absurd h (by decide)⟩ (Below.refl _ _)
            | 5, _ =>
              injection ho with ho
              subst ho
              clear hl
              simp only [fillA, List.take, List.drop, put_none, Act.put, List.setIfInBounds_toArray, List.set_cons_zero, List.set_cons_succ, Nat.reduceAdd]
              have f3 := hf 3 (by decide) (by kernel_rfl)
              generalize vals 3 = v3 at *
              subst f3
              clear hf
              go_wp2_with (fail)
              exact RQ.mk rfl ⟨(by first | rfl | (simp [FS27_6_29]; done) | (simp [FS27_6_29, *]; done) | (simp [FS27_6_29, gotV]; done) | (simp [FS27_6_29, gotV]; omega)), fun h => absurd h (by decide)⟩ (Below.refl _ _)
            | 6, _ =>
              injection ho with ho
              subst ho
              clear hl
              simp only [fillA, List.take, List.drop, put_none, Act.put, List.setIfInBounds_toArray, List.set_cons_zero, List.set_cons_succ, Nat.reduceAdd]
              have f4 := hf 4 (by decide) (by kernel_rfl)
              generalize vals 4 = v4 at *
              subst f4
              have f5 := hf 5 (by decide) (by kernel_rfl)
              generalize vals 5 = v5 at *
              subst f5
              have f3 := hf 3 (by decide) (by kernel_rfl)
              generalize vals 3 = v3 at *
              subst f3
              clear hf
              have hc1 := cellOf hb1
              have hf1 := frozOf hb1
              have hz1 := sizeOf hb1
              try simp at hz1
              go_wp2_with (first | (go_at_call 58; refine (c_impl_mayOpen _ _ _ _ _ _ _ (by first | assumption | exact Rds.below hx (by (repeat' (first | exact Below.refl _ _ | assumption | refine Below.setCell ?_ ?_ _ | refine Below.drew ?_ | refine Below.alloc ?_ ?_ _ | refine Below.trans ?_ (Below.mono (by assumption) ?_) | (simp; done) | (simp; omega) | omega)))) rfl (by omega) hok (by omega) (by omega)).mono ?_; rintro e w' ⟨rfl, hb⟩; have hc := cellOf hb; have hf := frozOf hb; have hz := sizeOf hb; try simp at hz))
              exact RQ.mk rfl ⟨(by first | rfl | (simp [FS27_6_29]; done) | (simp [FS27_6_29, *]; done) | (simp [FS27_6_29, gotV]; done) | (simp [FS27_6_29, gotV]; omega)), fun h => absurd h (by decide)⟩ (by (repeat' (first | exact Below.refl _ _ | assumption | refine Below.setCell ?_ ?_ _ | refine Below.drew ?_ | refine Below.alloc ?_ ?_ _ | refine Below.trans ?_ (Below.mono (by assumption) ?_) | (simp; done) | (simp; omega) | omega)))
            | 7, _ =>
              injection ho with ho
              subst ho
              clear hl
              simp only [fillA, List.take, List.drop, put_none, Act.put, List.setIfInBounds_toArray, List.set_cons_zero, List.set_cons_succ, Nat.reduceAdd]
              have f6 := hf 6 (by decide) (by kernel_rfl)
              generalize vals 6 = v6 at *
              subst f6
              have f3 := hf 3 (by decide) (by kernel_rfl)
              generalize vals 3 = v3 at *
              subst f3
              clear hf
              go_wp2_with (fail)
              exact RQ.mk rfl ⟨(by first | rfl | (simp [FS27_6_29]; done) | (simp [FS27_6_29, *]; done) | (simp [FS27_6_29, gotV]; done) | (simp [FS27_6_29, gotV]; omega)), fun h => absurd h (by decide)⟩ (Below.refl _ _)
            | 8, _ =>
              injection ho with ho
              subst ho
              clear hl
              simp only [fillA, List.take, List.drop, put_none, Act.put, List.setIfInBounds_toArray, List.set_cons_zero, List.set_cons_succ, Nat.reduceAdd]
              have f3 := hf 3 (by decide) (by kernel_rfl)
              generalize vals 3 = v3 at *
              subst f3
              have f7 := hf 7 (by decide) (by kernel_rfl)
              generalize vals 7 = v7 at *
              subst f7
              clear hf
              go_wp2_with (fail)
              exact RQ.mk rfl ⟨(by first | rfl | (simp [FS27_6_29]; done) | (simp [FS27_6_29, *]; done) | (simp [FS27_6_29, gotV]; done) | (simp [FS27_6_29, gotV]; omega)), fun h => absurd h (by decide)⟩ (Below.refl _ _)
            | 9, _ =>
              injection ho with ho
              subst ho
              clear hl
              simp only [fillA, List.take, List.drop, put_none, Act.put, List.setIfInBounds_toArray, List.set_cons_zero, List.set_cons_succ, Nat.reduceAdd]
              have f8 := hf 8 (by decide) (by kernel_rfl)
              generalize vals 8 = v8 at *
              subst f8
              have f6 := hf 6 (by decide) (by kernel_rfl)
              generalize vals 6 = v6 at *
              subst f6
              clear hf
              go_wp2_with (fail)
              exact RQ.mk rfl ⟨(by first | rfl | (simp [FS27_6_29]; done) | (simp [FS27_6_29, *]; done) | (simp [FS27_6_29, gotV]; done) | (simp [FS27_6_29, gotV]; omega)), fun h => absurd h (by decide)⟩ (Below.refl _ _)
            | 10, _ =>
              injection ho with ho
              subst ho
              clear hl
              simp only [fillA, List.take, List.drop, put_none, Act.put, List.setIfInBounds_toArray, List.set_cons_zero, List.set_cons_succ, Nat.reduceAdd]
              have f9 := hf 9 (by decide) (by kernel_rfl)
              generalize vals 9 = v9 at *
              subst f9
              clear hf
              go_wp2_with (fail)
              exact RQ.mk rfl ⟨(by first | rfl | (simp [FS27_6_29]; done) | (simp [FS27_6_29, *]; done) | (simp [FS27_6_29, gotV]; done) | (simp [FS27_6_29, gotV]; omega)), fun h => absurd h (by decide)⟩ (Below.refl _ _)
            | 11, _ =>
              injection ho with ho
              subst ho
              clear hl
              simp only [fillA, List.take, List.drop, put_none, Act.put, List.setIfInBounds_toArray, List.set_cons_zero, List.set_cons_succ, Nat.reduceAdd]
              have f10 := hf 10 (by decide) (by kernel_rfl)
              generalize vals 10 = v10 at *
              subst f10
              have f9 := hf 9 (by decide) (by kernel_rfl)
              generalize vals 9 = v9 at *
              subst f9
              clear hf
              go_wp2_with (fail)
              exact RQ.mk rfl ⟨(by first | rfl | (simp [FS27_6_29]; done) | (simp [FS27_6_29, *]; done) | (simp [FS27_6_29, gotV]; done) | (simp [FS27_6_29, gotV]; omega)), fun h => absurd h (by decide)⟩ (Below.refl _ _)
            | 12, _ =>
              injection ho with ho
              subst ho
              clear hl
              simp only [fillA, List.take, List.drop, put_none, Act.put, List.setIfInBounds_toArray, List.set_cons_zero, List.set_cons_succ, Nat.reduceAdd]
              have f11 := hf 11 (by decide) (by kernel_rfl)
              generalize vals 11 = v11 at *
              subst f11
              have f9 := hf 9 (by decide) (by kernel_rfl)
              generalize vals 9 = v9 at *
              subst f9
              clear hf
              go_wp2_with (fail)
              exact RQ.mk rfl ⟨(by first | rfl | (simp [FS27_6_29]; done) | (simp [FS27_6_29, *]; done) | (simp [FS27_6_29, gotV]; done) | (simp [FS27_6_29, gotV]; omega)), fun h => absurd h (by decide)⟩ (Below.refl _ _)
            | 13, _ =>
              injection ho with ho
              subst ho
              clear hl
              simp only [fillA, List.take, List.drop, put_none, Act.put, List.setIfInBounds_toArray, List.set_cons_zero, List.set_cons_succ, Nat.reduceAdd]
              have f12 := hf 12 (by decide) (by kernel_rfl)
              generalize vals 12 = v12 at *
              subst f12
              clear hf
              go_wp2_with (fail)
              exact RQ.mk rfl ⟨(by first | rfl | (simp [FS27_6_29]; done) | (simp [FS27_6_29, *]; done) | (simp [FS27_6_29, gotV]; done) | (simp [FS27_6_29, gotV]; omega)), fun h => absurd h (by decide)⟩ (Below.refl _ _)
            | 14, _ =>
              injection ho with ho
              subst ho
              clear hl
              simp only [fillA, List.take, List.drop, put_none, Act.put, List.setIfInBounds_toArray, List.set_cons_zero, List.set_cons_succ, Nat.reduceAdd]
              have f12 := hf 12 (by decide) (by kernel_rfl)
              generalize vals 12 = v12 at *
              subst f12
              clear hf
              go_wp2_with (fail)
              exact RQ.mk rfl ⟨(by first | rfl | (simp [FS27_6_29]; done) | (simp [FS27_6_29, *]; done) | (simp [FS27_6_29, gotV]; done) | (simp [FS27_6_29, gotV]; omega)), fun h => absurd h (by decide)⟩ (Below.refl _ _)
            | 15, _ =>
              injection ho with ho
              subst ho
              clear hl
              simp only [fillA, List.take, List.drop, put_none, Act.put, List.setIfInBounds_toArray, List.set_cons_zero, List.set_cons_succ, Nat.reduceAdd]
              have f12 := hf 12 (by decide) (by kernel_rfl)
              generalize vals 12 = v12 at *
              subst f12
              clear hf
              go_wp2_with (fail)
              exact RQ.mk rfl ⟨(by first | rfl | (simp [FS27_6_29]; done) | (simp [FS27_6_29, *]; done) | (simp [FS27_6_29, gotV]; done) | (simp [FS27_6_29, gotV]; omega)), fun h => absurd h (by decide)⟩ (Below.refl _ _)
            | 16, _ =>
              injection ho with ho
              subst ho
              clear hl
              simp only [fillA, List.take, List.drop, put_none, Act.put, List.setIfInBounds_toArray, List.set_cons_zero, List.set_cons_succ, Nat.reduceAdd]
              have f15 := hf 15 (by decide) (by kernel_rfl)
              generalize vals 15 = v15 at *
              subst f15
              have f12 := hf 12 (by decide) (by kernel_rfl)
              generalize vals 12 = v12 at *
              subst f12
              clear hf
              go_wp2_with (fail)
              exact RQ.mk rfl ⟨(by first | rfl | (simp [FS27_6_29]; done) | (simp [FS27_6_29, *]; done) | (simp [FS27_6_29, gotV]; done) | (simp [FS27_6_29, gotV]; omega)), fun h => absurd h (by decide)⟩ (Below.refl _ _)
            | 17, _ =>
              injection ho with ho
              subst ho
              clear hl
              simp only [fillA, List.take, List.drop, put_none, Act.put, List.setIfInBounds_toArray, List.set_cons_zero, List.set_cons_succ, Nat.reduceAdd]
              have f14 := hf 14 (by decide) (by kernel_rfl)
              generalize vals 14 = v14 at *
              subst f14
              have f16 := hf 16 (by decide) (by kernel_rfl)
              generalize vals 16 = v16 at *
              subst f16
              have f12 := hf 12 (by decide) (by kernel_rfl)
              generalize vals 12 = v12 at *
              subst f12
              clear hf
              go_wp2_with (fail)
              exact RQ.mk rfl ⟨(by first | rfl | (simp [FS27_6_29]; done) | (simp [FS27_6_29, *]; done) | (simp [FS27_6_29, gotV]; done) | (simp [FS27_6_29, gotV]; omega)), fun h => absurd h (by decide)⟩ (Below.refl _ _)
            | 18, _ =>
              injection ho with ho
              subst ho
              clear hl
              simp only [fillA, List.take, List.drop, put_none, Act.put, List.setIfInBounds_toArray, List.set_cons_zero, List.set_cons_succ, Nat.reduceAdd]
              have f17 := hf 17 (by decide) (by kernel_rfl)
              generalize vals 17 = v17 at *
              subst f17
              have f12 := hf 12 (by decide) (by kernel_rfl)
              generalize vals 12 = v12 at *
              subst f12
              clear hf
              go_wp2_with (fail)
              exact RQ.mk rfl ⟨(by first | rfl | (simp [FS27_6_29]; done) | (simp [FS27_6_29, *]; done) | (simp [FS27_6_29, gotV]; done) | (simp [FS27_6_29, gotV]; omega)), fun h => absurd h (by decide)⟩ (Below.refl _ _)
            | 19, _ =>
              injection ho with ho
              subst ho
              clear hl
              simp only [fillA, List.take, List.drop, put_none, Act.put, List.setIfInBounds_toArray, List.set_cons_zero, List.set_cons_succ, Nat.reduceAdd]
              have f13 := hf 13 (by decide) (by kernel_rfl)
              generalize vals 13 = v13 at *
              subst f13
              have f18 := hf 18 (by decide) (by kernel_rfl)
              generalize vals 18 = v18 at *
              subst f18
              have f12 := hf 12 (by decide) (by kernel_rfl)
              generalize vals 12 = v12 at *
              subst f12
              clear hf
              go_wp2_with (fail)
              exact RQ.mk rfl ⟨(by first | rfl | (simp [FS27_6_29]; done) | (simp [FS27_6_29, *]; done) | (simp [FS27_6_29, gotV]; done) | (simp [FS27_6_29, gotV]; omega)), fun h => absurd h (by decide)⟩ (Below.refl _ _)
            | 20, _ =>
              injection ho with ho
              subst ho
              clear hl
              simp only [fillA, List.take, List.drop, put_none, Act.put, List.setIfInBounds_toArray, List.set_cons_zero, List.set_cons_succ, Nat.reduceAdd]
              have f12 := hf 12 (by decide) (by kernel_rfl)
              generalize vals 12 = v12 at *
              subst f12
              clear hf
              go_wp2_with (fail)
              exact RQ.mk rfl ⟨(by first | rfl | (simp [FS27_6_29]; done) | (simp [FS27_6_29, *]; done) | (simp [FS27_6_29, gotV]; done) | (simp [FS27_6_29, gotV]; omega)), fun h => absurd h (by decide)⟩ (Below.refl _ _)
            | 21, _ =>
              injection ho with ho
              subst ho
              clear hl
              simp only [fillA, List.take, List.drop, put_none, Act.put, List.setIfInBounds_toArray, List.set_cons_zero, List.set_cons_succ, Nat.reduceAdd]
              have f20 := hf 20 (by decide) (by kernel_rfl)
              generalize vals 20 = v20 at *
              subst f20
              have f12 := hf 12 (by decide) (by kernel_rfl)
              generalize vals 12 = v12 at *
              subst f12
              clear hf
              go_wp2_with (fail)
              exact RQ.mk rfl ⟨(by first | rfl | (simp [FS27_6_29]; done) | (simp [FS27_6_29, *]; done) | (simp [FS27_6_29, gotV]; done) | (simp [FS27_6_29, gotV]; omega)), fun h => absurd h (by decide)⟩ (Below.refl _ _)
            | 22, _ =>
              injection ho with ho
              subst ho
              clear hl
              simp only [fillA, List.take, List.drop, put_none, Act.put, List.setIfInBounds_toArray, List.set_cons_zero, List.set_cons_succ, Nat.reduceAdd]
              have f19 := hf 19 (by decide) (by kernel_rfl)
              generalize vals 19 = v19 at *
              subst f19
              have f21 := hf 21 (by decide) (by kernel_rfl)
              generalize vals 21 = v21 at *
              subst f21
              have f12 := hf 12 (by decide) (by kernel_rfl)
              generalize vals 12 = v12 at *
              subst f12
              clear hf
              go_wp2_with (fail)
              exact RQ.mk rfl ⟨(by first | rfl | (simp [FS27_6_29]; done) | (simp [FS27_6_29, *]; done) | (simp [FS27_6_29, gotV]; done) | (simp [FS27_6_29, gotV]; omega)), fun h => absurd h (by decide)⟩ (Below.refl _ _)
            | 23, _ =>
              injection ho with ho
              subst ho
              clear hl
              simp only [fillA, List.take, List.drop, put_none, Act.put, List.setIfInBounds_toArray, List.set_cons_zero, List.set_cons_succ, Nat.reduceAdd]
              have f12 := hf 12 (by decide) (by kernel_rfl)
              generalize vals 12 = v12 at *
              subst f12
              have f22 := hf 22 (by decide) (by kernel_rfl)
              generalize vals 22 = v22 at *
              subst f22
              have f9 := hf 9 (by decide) (by kernel_rfl)
              generalize vals 9 = v9 at *
              subst f9
              clear hf
              go_wp2_with (fail)
              exact RQ.mk rfl ⟨(by first | rfl | (simp [FS27_6_29]; done) | (simp [FS27_6_29, *]; done) | (simp [FS27_6_29, gotV]; done) | (simp [FS27_6_29, gotV]; omega)), fun h => absurd h (by decide)⟩ (Below.refl _ _)
            | 24, _ =>
              injection ho with ho
              subst ho
              clear hl
              simp only [fillA, List.take, List.drop, put_none, Act.put, List.setIfInBounds_toArray, List.set_cons_zero, List.set_cons_succ, Nat.reduceAdd]
              have f9 := hf 9 (by decide) (by kernel_rfl)
              generalize vals 9 = v9 at *
              subst f9
              have f23 := hf 23 (by decide) (by kernel_rfl)
              generalize vals 23 = v23 at *
              subst f23
              clear hf
              go_wp2_with (fail)
              exact RQ.mk rfl ⟨(by first | rfl | (simp [FS27_6_29]; done) | (simp [FS27_6_29, *]; done) | (simp [FS27_6_29, gotV]; done) | (simp [FS27_6_29, gotV]; omega)), fun h => absurd h (by decide)⟩ (Below.refl _ _)
            | m + 25, h => exact absurd h (by omega)
          · intro vals w1 hb1 hf hd
            simp only [fillA, List.take, List.drop, put_none, Act.put, List.setIfInBounds_toArray, List.set_cons_zero, List.set_cons_succ, Nat.reduceAdd]
            clear hd
            have f0 := hf 0 (by decide)
            generalize vals 0 = v0 at *
            subst f0
            have f1 := hf 1 (by decide)
            generalize vals 1 = v1 at *
            subst f1
            have f2 := hf 2 (by decide)
            generalize vals 2 = v2 at *
            subst f2
            have f3 := hf 3 (by decide)
            generalize vals 3 = v3 at *
            subst f3
            have f4 := hf 4 (by decide)
            generalize vals 4 = v4 at *
            subst f4
            have f5 := hf 5 (by decide)
            generalize vals 5 = v5 at *
            subst f5
            have f6 := hf 6 (by decide)
            generalize vals 6 = v6 at *
            subst f6
            have f7 := hf 7 (by decide)
            generalize vals 7 = v7 at *
            subst f7
            have f8 := hf 8 (by decide)
            generalize vals 8 = v8 at *
            subst f8
            have f9 := hf 9 (by decide)
            generalize vals 9 = v9 at *
            subst f9
            have f10 := hf 10 (by decide)
            generalize vals 10 = v10 at *
            subst f10
            have f11 := hf 11 (by decide)
            generalize vals 11 = v11 at *
            subst f11
            have f12 := hf 12 (by decide)
            generalize vals 12 = v12 at *
            subst f12
            have f13 := hf 13 (by decide)
            generalize vals 13 = v13 at *
            subst f13
            have f14 := hf 14 (by decide)
            generalize vals 14 = v14 at *
            subst f14
            have f15 := hf 15 (by decide)
            generalize vals 15 = v15 at *
            subst f15
            have f16 := hf 16 (by decide)
            generalize vals 16 = v16 at *
            subst f16
            have f17 := hf 17 (by decide)
            generalize vals 17 = v17 at *
            subst f17
            have f18 := hf 18 (by decide)
            generalize vals 18 = v18 at *
            subst f18
            have f19 := hf 19 (by decide)
            generalize vals 19 = v19 at *
            subst f19
            have f20 := hf 20 (by decide)
            generalize vals 20 = v20 at *
            subst f20
            have f21 := hf 21 (by decide)
            generalize vals 21 = v21 at *
            subst f21
            have f22 := hf 22 (by decide)
            generalize vals 22 = v22 at *
            subst f22
            have f23 := hf 23 (by decide)
            generalize vals 23 = v23 at *
            subst f23
            have f24 := hf 24 (by decide)
            generalize vals 24 = v24 at *
            subst f24
            clear hf
            have hc1 := cellOf hb1
            have hf1 := frozOf hb1
            have hz1 := sizeOf hb1
            try simp at hz1
            go_wp2_with (fail)
            go_ret
            exact ⟨ret_bool (by rw [HB.out (by rw [HV.out, HG.out])]), by (repeat' (first | exact Below.refl _ _ | assumption | refine Below.setCell ?_ ?_ _ | refine Below.drew ?_ | refine Below.alloc ?_ ?_ _ | refine Below.trans ?_ (Below.mono (by assumption) ?_) | (simp; done) | (simp; omega) | omega))⟩
      | succ k =>
        have HV := hid (vAt_succ (good := mayB d xs) (lt := gapLe d) k hlt)
        have hlt' : k < pl.length := by omega
        have hx0 := hcx (k + 1) hlt 0 _ rfl
        have hy0 := hcx k hlt' 0 _ rfl
        simp only [Nat.add_zero, Nat.mul_one] at hx0 hy0
        have hyb : 0 ≤ pl[k] ∧ pl[k] ≤ 9999 := by
          have h := HL.out k (by omega)
          rw [vAt_split _ _ _ _ hlt', Bool.and_eq_true] at h
          have := mayB_bd h.1
          omega
        clear hcx
        generalize pl[k + 1] = x at *
        generalize pl[k] = y at *
        by_cases hm : minB x = true
        rotate_left
        · have hmf : minB x = false := by simpa using hm
          have HG := hid (mayB_min (d := d) (xs := xs) hdb.1 hmf)
          clear hm
          go_wp2_with (fail)
          refine wp_region_w (n := 25) [] [] (FS27_6_30 d A xs x y bx ox k xs.length pl.length cap capp w) rfl (by kernel_rfl) (fun _ _ d _ _ h => by cases d <;> exact h) ?_ ?_ ?_ ?_ ?_ ?_
          · intro iq
            match iq with
            | 0 | 1 | 2 | 3 | 4 | 5 | 6 | 7 | 8 | 9 | 10 | 11 | 12 | 13 | 14 | 15 | 16 | 17 | 18 | 19 | 20 | 21 | 22 | 23 | 24 => exact Stable.const _
            | n + 25 => exact Stable.const _
          · intro iq hi
            exact absurd hi (by simp)
          · intro iq hi
            exact absurd hi (by simp)
          · intro iq o hi hl ho vals w1 hb1 hf
            exact absurd hl (by simp)
          · intro iq o hi hl ho vals w1 hb1 hf
            match iq, hi with
            | 0, _ =>
              injection ho with ho
              subst ho
              clear hl
              simp only [fillA, List.take, List.drop, put_none, Act.put, List.setIfInBounds_toArray, List.set_cons_zero, List.set_cons_succ, Nat.reduceAdd]
              clear hf
              go_wp2_with (fail)
              exact RQ.mk rfl ⟨(by first | rfl | (simp [FS27_6_30]; done) | (simp [FS27_6_30, *]; done) | (simp [FS27_6_30, gotV]; done) | (simp [FS27_6_30, gotV]; omega)), fun h => absurd h (by decide)⟩ (Below.refl _ _)
            | 1, _ =>
              injection ho with ho
              subst ho
              clear hl
              simp only [fillA, List.take, List.drop, put_none, Act.put, List.setIfInBounds_toArray, List.set_cons_zero, List.set_cons_succ, Nat.reduceAdd]
              have f0 := hf 0 (by decide) (by kernel_rfl)
              generalize vals 0 = v0 at *
              subst f0
              clear hf
              have hc1 := cellOf hb1
              have hf1 := frozOf hb1
              have hz1 := sizeOf hb1
              try simp at hz1
              go_wp2_with (first | (go_at_call 57; refine (c_impl_isMinute _ _ ).mono ?_; rintro e w' ⟨rfl, hb⟩; have hc := cellOf hb; have hf := frozOf hb; have hz := sizeOf hb; try simp at hz))
              exact RQ.mk rfl ⟨(by first | rfl | (simp [FS27_6_30]; done) | (simp [FS27_6_30, *]; done) | (simp [FS27_6_30, gotV]; done) | (simp [FS27_6_30, gotV]; omega)), fun h => absurd h (by decide)⟩ (by (repeat' (first | exact Below.refl _ _ | assumption | refine Below.setCell ?_ ?_ _ | refine Below.drew ?_ | refine Below.alloc ?_ ?_ _ | refine Below.trans ?_ (Below.mono (by assumption) ?_) | (simp; done) | (simp; omega) | omega)))
            | 2, _ =>
              injection ho with ho
              subst ho
              clear hl
              simp only [fillA, List.take, List.drop, put_none, Act.put, List.setIfInBounds_toArray, List.set_cons_zero, List.set_cons_succ, Nat.reduceAdd]
              have f1 := hf 1 (by decide) (by kernel_rfl)
              generalize vals 1 = v1 at *
              subst f1
              clear hf
              go_wp2_with (fail)
              exact RQ.mk rfl ⟨(by first | rfl | (simp [FS27_6_30]; done) | (simp [FS27_6_30, *]; done) | (simp [FS27_6_30, gotV]; done) | (simp [FS27_6_30, gotV]; omega)), fun h => absurd h (by decide)⟩ (Below.refl _ _)
            | 3, _ =>
              injection ho with ho
              subst ho
              clear hl
              simp only [fillA, List.take, List.drop, put_none, Act.put, List.setIfInBounds_toArray, List.set_cons_zero, List.set_cons_succ, Nat.reduceAdd]
              have f2 := hf 2 (by decide) (by kernel_rfl)
              generalize vals 2 = v2 at *
              subst f2
              have f1 := hf 1 (by decide) (by kernel_rfl)
              generalize vals 1 = v1 at *
              subst f1
              clear hf
              go_wp2_with (fail)
              exact RQ.mk rfl ⟨(by first | rfl | (simp [FS27_6_30]; done) | (simp [FS27_6_30, *]; done) | (simp [FS27_6_30, gotV]; done) | (simp [FS27_6_30, gotV]; omega)), fun h => absurd h (by decide)⟩ (Below.refl _ _)
            | 4, _ =>
              injection ho with ho
              subst ho
              clear hl
              simp only [fillA, List.take, List.drop, put_none, Act.put, List.setIfInBounds_toArray, List.set_cons_zero, List.set_cons_succ, Nat.reduceAdd]
              have f3 := hf 3 (by decide) (by kernel_rfl)
              generalize vals 3 = v3 at *
              subst f3
              clear hf
              go_wp2_with (fail)
              exact RQ.mk rfl ⟨(by first | rfl | (simp [FS27_6_30]; done) | (simp [FS27_6_30, *]; done) | (simp [FS27_6_30, gotV]; done) | (simp [FS27_6_30, gotV]; omega)), fun h => absurd h (by decide)⟩ (Below.refl _ _)
            | 5, _ =>
              injection ho with ho
              subst ho
              clear hl
              simp only [fillA, List.take, List.drop, put_none, Act.put, List.setIfInBounds_toArray, List.set_cons_zero, List.set_cons_succ, Nat.reduceAdd]
              have f3 := hf 3 (by decide) (by kernel_rfl)
              generalize vals 3 = v3 at *
              subst f3
              clear hf
              go_wp2_with (fail)
              exact RQ.mk rfl ⟨(by first | rfl | (simp [FS27_6_30]; done) | (simp [FS27_6_30, *]; done) | (simp [FS27_6_30, gotV]; done) | (simp [FS27_6_30, gotV]; omega)), fun h => absurd h (by decide)⟩ (Below.refl _ _)
            | 6, _ =>
              injection ho with ho
              subst ho
              clear hl
              simp only [fillA, List.take, List.drop, put_none, Act.put, List.setIfInBounds_toArray, List.set_cons_zero, List.set_cons_succ, Nat.reduceAdd]
              have f4 := hf 4 (by decide) (by kernel_rfl)
              generalize vals 4 = v4 at *
              subst f4
              have f5 := hf 5 (by decide) (by kernel_rfl)
              generalize vals 5 = v5 at *
              subst f5
              have f3 := hf 3 (by decide) (by kernel_rfl)
              generalize vals 3 = v3 at *
              subst f3
              clear hf
              go_wp2_with (first | (go_at_call 58; refine (c_impl_mayOpen _ _ _ _ _ _ _ (by first | assumption | exact Rds.below hx (by (repeat' (first | exact Below.refl _ _ | assumption | refine Below.setCell ?_ ?_ _ | refine Below.drew ?_ | refine Below.alloc ?_ ?_ _ | refine Below.trans ?_ (Below.mono (by assumption) ?_) | (simp; done) | (simp; omega) | omega)))) rfl (by omega) hok (by omega) (by omega)).mono ?_; rintro e w' ⟨rfl, hb⟩; have hc := cellOf hb; have hf := frozOf hb; have hz := sizeOf hb; try simp at hz))
              exact RQ.mk rfl ⟨(by first | rfl | (simp [FS27_6_30]; done) | (simp [FS27_6_30, *]; done) | (simp [FS27_6_30, gotV]; done) | (simp [FS27_6_30, gotV]; omega)), fun h => absurd h (by decide)⟩ (Below.refl _ _)
            | 7, _ =>
              injection ho with ho
              subst ho
              clear hl
              simp only [fillA, List.take, List.drop, put_none, Act.put, List.setIfInBounds_toArray, List.set_cons_zero, List.set_cons_succ, Nat.reduceAdd]
              have f6 := hf 6 (by decide) (by kernel_rfl)
              generalize vals 6 = v6 at *
              subst f6
              have f3 := hf 3 (by decide) (by kernel_rfl)
              generalize vals 3 = v3 at *
              subst f3
              clear hf
              go_wp2_with (fail)
              exact RQ.mk rfl ⟨(by first | rfl | (simp [FS27_6_30]; done) | (simp [FS27_6_30, *]; done) | (simp [FS27_6_30, gotV]; done) | (simp [FS27_6_30, gotV]; omega)), fun h => absurd h (by decide)⟩ (Below.refl _ _)
            | 8, _ =>
              injection ho with ho
              subst ho
              clear hl
              simp only [fillA, List.take, List.drop, put_none, Act.put, List.setIfInBounds_toArray, List.set_cons_zero, List.set_cons_succ, Nat.reduceAdd]
              have f3 := hf 3 (by decide) (by kernel_rfl)
              generalize vals 3 = v3 at *
              subst f3
              have f7 := hf 7 (by decide) (by kernel_rfl)
              generalize vals 7 = v7 at *
              subst f7
              clear hf
              go_wp2_with (fail)
              exact RQ.mk rfl ⟨(by first | rfl | (simp [FS27_6_30]; done) | (simp [FS27_6_30, *]; done) | (simp [FS27_6_30, gotV]; done) | (simp [FS27_6_30, gotV]; omega)), fun h => absurd h (by decide)⟩ (Below.refl _ _)
            | 9, _ =>
              injection ho with ho
              subst ho
              clear hl
              simp only [fillA, List.take, List.drop, put_none, Act.put, List.setIfInBounds_toArray, List.set_cons_zero, List.set_cons_succ, Nat.reduceAdd]
              have f8 := hf 8 (by decide) (by kernel_rfl)
              generalize vals 8 = v8 at *
              subst f8
              have f6 := hf 6 (by decide) (by kernel_rfl)
              generalize vals 6 = v6 at *
              subst f6
              clear hf
              go_wp2_with (fail)
              exact RQ.mk rfl ⟨(by first | rfl | (simp [FS27_6_30]; done) | (simp [FS27_6_30, *]; done) | (simp [FS27_6_30, gotV]; done) | (simp [FS27_6_30, gotV]; omega)), fun h => absurd h (by decide)⟩ (Below.refl _ _)
            | 10, _ =>
              injection ho with ho
              subst ho
              clear hl
              simp only [fillA, List.take, List.drop, put_none, Act.put, List.setIfInBounds_toArray, List.set_cons_zero, List.set_cons_succ, Nat.reduceAdd]
              have f9 := hf 9 (by decide) (by kernel_rfl)
              generalize vals 9 = v9 at *
              subst f9
              clear hf
              go_wp2_with (fail)
              exact RQ.mk rfl ⟨(by first | rfl | (simp [FS27_6_30]; done) | (simp [FS27_6_30, *]; done) | (simp [FS27_6_30, gotV]; done) | (simp [FS27_6_30, gotV]; omega)), fun h => absurd h (by decide)⟩ (Below.refl _ _)
            | 11, _ =>
              injection ho with ho
              subst ho
              clear hl
              simp only [fillA, List.take, List.drop, put_none, Act.put, List.setIfInBounds_toArray, List.set_cons_zero, List.set_cons_succ, Nat.reduceAdd]
              have f10 := hf 10 (by decide) (by kernel_rfl)
              generalize vals 10 = v10 at *
              subst f10
              have f9 := hf 9 (by decide) (by kernel_rfl)
              generalize vals 9 = v9 at *
              subst f9
              clear hf
              go_wp2_with (fail)
              exact RQ.mk rfl ⟨(by first | rfl | (simp [FS27_6_30]; done) | (simp [FS27_6_30, *]; done) | (simp [FS27_6_30, gotV]; done) | (simp [FS27_6_30, gotV]; omega)), fun h => absurd h (by decide)⟩ (Below.refl _ _)
            | 12, _ =>
              injection ho with ho
              subst ho
              clear hl
              simp only [fillA, List.take, List.drop, put_none, Act.put, List.setIfInBounds_toArray, List.set_cons_zero, List.set_cons_succ, Nat.reduceAdd]
              have f11 := hf 11 (by decide) (by kernel_rfl)
              generalize vals 11 = v11 at *
              subst f11
              have f9 := hf 9 (by decide) (by kernel_rfl)
              generalize vals 9 = v9 at *
              subst f9
              clear hf
              go_wp2_with (fail)
              exact RQ.mk rfl ⟨(by first | rfl | (simp [FS27_6_30]; done) | (simp [FS27_6_30, *]; done) | (simp [FS27_6_30, gotV]; done) | (simp [FS27_6_30, gotV]; omega)), fun h => absurd h (by decide)⟩ (Below.refl _ _)
            | 13, _ =>
              injection ho with ho
              subst ho
              clear hl
              simp only [fillA, List.take, List.drop, put_none, Act.put, List.setIfInBounds_toArray, List.set_cons_zero, List.set_cons_succ, Nat.reduceAdd]
              have f12 := hf 12 (by decide) (by kernel_rfl)
              generalize vals 12 = v12 at *
              subst f12
              clear hf
              go_wp2_with (fail)
              exact RQ.mk rfl ⟨(by first | rfl | (simp [FS27_6_30]; done) | (simp [FS27_6_30, *]; done) | (simp [FS27_6_30, gotV]; done) | (simp [FS27_6_30, gotV]; omega)), fun h => absurd h (by decide)⟩ (Below.refl _ _)
            | 14, _ =>
              injection ho with ho
              subst ho
              clear hl
              simp only [fillA, List.take, List.drop, put_none, Act.put, List.setIfInBounds_toArray, List.set_cons_zero, List.set_cons_succ, Nat.reduceAdd]
              have f12 := hf 12 (by decide) (by kernel_rfl)
              generalize vals 12 = v12 at *
              subst f12
              clear hf
              go_wp2_with (fail)
              exact RQ.mk rfl ⟨(by first | rfl | (simp [FS27_6_30]; done) | (simp [FS27_6_30, *]; done) | (simp [FS27_6_30, gotV]; done) | (simp [FS27_6_30, gotV]; omega)), fun h => absurd h (by decide)⟩ (Below.refl _ _)
            | 15, _ =>
              injection ho with ho
              subst ho
              clear hl
              simp only [fillA, List.take, List.drop, put_none, Act.put, List.setIfInBounds_toArray, List.set_cons_zero, List.set_cons_succ, Nat.reduceAdd]
              have f12 := hf 12 (by decide) (by kernel_rfl)
              generalize vals 12 = v12 at *
              subst f12
              clear hf
              go_wp2_with (fail)
              exact RQ.mk rfl ⟨(by first | rfl | (simp [FS27_6_30]; done) | (simp [FS27_6_30, *]; done) | (simp [FS27_6_30, gotV]; done) | (simp [FS27_6_30, gotV]; omega)), fun h => absurd h (by decide)⟩ (Below.refl _ _)
            | 16, _ =>
              injection ho with ho
              subst ho
              clear hl
              simp only [fillA, List.take, List.drop, put_none, Act.put, List.setIfInBounds_toArray, List.set_cons_zero, List.set_cons_succ, Nat.reduceAdd]
              have f15 := hf 15 (by decide) (by kernel_rfl)
              generalize vals 15 = v15 at *
              subst f15
              have f12 := hf 12 (by decide) (by kernel_rfl)
              generalize vals 12 = v12 at *
              subst f12
              clear hf
              go_wp2_with (fail)
              exact RQ.mk rfl ⟨(by first | rfl | (simp [FS27_6_30]; done) | (simp [FS27_6_30, *]; done) | (simp [FS27_6_30, gotV]; done) | (simp [FS27_6_30, gotV]; omega)), fun h => absurd h (by decide)⟩ (Below.refl _ _)
            | 17, _ =>
              injection ho with ho
              subst ho
              clear hl
              simp only [fillA, List.take, List.drop, put_none, Act.put, List.setIfInBounds_toArray, List.set_cons_zero, List.set_cons_succ, Nat.reduceAdd]
              have f14 := hf 14 (by decide) (by kernel_rfl)
              generalize vals 14 = v14 at *
              subst f14
              have f16 := hf 16 (by decide) (by kernel_rfl)
              generalize vals 16 = v16 at *
              subst f16
              have f12 := hf 12 (by decide) (by kernel_rfl)
              generalize vals 12 = v12 at *
              subst f12
              clear hf
              go_wp2_with (fail)
              exact RQ.mk rfl ⟨(by first | rfl | (simp [FS27_6_30]; done) | (simp [FS27_6_30, *]; done) | (simp [FS27_6_30, gotV]; done) | (simp [FS27_6_30, gotV]; omega)), fun h => absurd h (by decide)⟩ (Below.refl _ _)
            | 18, _ =>
              injection ho with ho
              subst ho
              clear hl
              simp only [fillA, List.take, List.drop, put_none, Act.put, List.setIfInBounds_toArray, List.set_cons_zero, List.set_cons_succ, Nat.reduceAdd]
              have f17 := hf 17 (by decide) (by kernel_rfl)
              generalize vals 17 = v17 at *
              subst f17
              have f12 := hf 12 (by decide) (by kernel_rfl)
              generalize vals 12 = v12 at *
              subst f12
              clear hf
              go_wp2_with (fail)
              exact RQ.mk rfl ⟨(by first | rfl | (simp [FS27_6_30]; done) | (simp [FS27_6_30, *]; done) | (simp [FS27_6_30, gotV]; done) | (simp [FS27_6_30, gotV]; omega)), fun h => absurd h (by decide)⟩ (Below.refl _ _)
            | 19, _ =>
              injection ho with ho
              subst ho
              clear hl
              simp only [fillA, List.take, List.drop, put_none, Act.put, List.setIfInBounds_toArray, List.set_cons_zero, List.set_cons_succ, Nat.reduceAdd]
              have f13 := hf 13 (by decide) (by kernel_rfl)
              generalize vals 13 = v13 at *
              subst f13
              have f18 := hf 18 (by decide) (by kernel_rfl)
              generalize vals 18 = v18 at *
              subst f18
              have f12 := hf 12 (by decide) (by kernel_rfl)
              generalize vals 12 = v12 at *
              subst f12
              clear hf
              go_wp2_with (fail)
              exact RQ.mk rfl ⟨(by first | rfl | (simp [FS27_6_30]; done) | (simp [FS27_6_30, *]; done) | (simp [FS27_6_30, gotV]; done) | (simp [FS27_6_30, gotV]; omega)), fun h => absurd h (by decide)⟩ (Below.refl _ _)
            | 20, _ =>
              injection ho with ho
              subst ho
              clear hl
              simp only [fillA, List.take, List.drop, put_none, Act.put, List.setIfInBounds_toArray, List.set_cons_zero, List.set_cons_succ, Nat.reduceAdd]
              have f12 := hf 12 (by decide) (by kernel_rfl)
              generalize vals 12 = v12 at *
              subst f12
              clear hf
              go_wp2_with (fail)
              exact RQ.mk rfl ⟨(by first | rfl | (simp [FS27_6_30]; done) | (simp [FS27_6_30, *]; done) | (simp [FS27_6_30, gotV]; done) | (simp [FS27_6_30, gotV]; omega)), fun h => absurd h (by decide)⟩ (Below.refl _ _)
            | 21, _ =>
              injection ho with ho
              subst ho
              clear hl
              simp only [fillA, List.take, List.drop, put_none, Act.put, List.setIfInBounds_toArray, List.set_cons_zero, List.set_cons_succ, Nat.reduceAdd]
              have f20 := hf 20 (by decide) (by kernel_rfl)
              generalize vals 20 = v20 at *
              subst f20
              have f12 := hf 12 (by decide) (by kernel_rfl)
              generalize vals 12 = v12 at *
              subst f12
              clear hf
              go_wp2_with (fail)
              exact RQ.mk rfl ⟨(by first | rfl | (simp [FS27_6_30]; done) | (simp [FS27_6_30, *]; done) | (simp [FS27_6_30, gotV]; done) | (simp [FS27_6_30, gotV]; omega)), fun h => absurd h (by decide)⟩ (Below.refl _ _)
            | 22, _ =>
              injection ho with ho
              subst ho
              clear hl
              simp only [fillA, List.take, List.drop, put_none, Act.put, List.setIfInBounds_toArray, List.set_cons_zero, List.set_cons_succ, Nat.reduceAdd]
              have f19 := hf 19 (by decide) (by kernel_rfl)
              generalize vals 19 = v19 at *
              subst f19
              have f21 := hf 21 (by decide) (by kernel_rfl)
              generalize vals 21 = v21 at *
              subst f21
              have f12 := hf 12 (by decide) (by kernel_rfl)
              generalize vals 12 = v12 at *
              subst f12
              clear hf
              go_wp2_with (fail)
              exact RQ.mk rfl ⟨(by first | rfl | (simp [FS27_6_30]; done) | (simp [FS27_6_30, *]; done) | (simp [FS27_6_30, gotV]; done) | (simp [FS27_6_30, gotV]; omega)), fun h => absurd h (by decide)⟩ (Below.refl _ _)
            | 23, _ =>
              injection ho with ho
              subst ho
              clear hl
              simp only [fillA, List.take, List.drop, put_none, Act.put, List.setIfInBounds_toArray, List.set_cons_zero, List.set_cons_succ, Nat.reduceAdd]
              have f12 := hf 12 (by decide) (by kernel_rfl)
              generalize vals 12 = v12 at *
              subst f12
              have f22 := hf 22 (by decide) (by kernel_rfl)
              generalize vals 22 = v22 at *
              subst f22
              have f9 := hf 9 (by decide) (by kernel_rfl)
              generalize vals 9 = v9 at *
              subst f9
              clear hf
              go_wp2_with (fail)
              exact RQ.mk rfl ⟨(by first | rfl | (simp [FS27_6_30]; done) | (simp [FS27_6_30, *]; done) | (simp [FS27_6_30, gotV]; done) | (simp [FS27_6_30, gotV]; omega)), fun h => absurd h (by decide)⟩ (Below.refl _ _)
            | 24, _ =>
              injection ho with ho
              subst ho
              clear hl
              simp only [fillA, List.take, List.drop, put_none, Act.put, List.setIfInBounds_toArray, List.set_cons_zero, List.set_cons_succ, Nat.reduceAdd]
              have f9 := hf 9 (by decide) (by kernel_rfl)
              generalize vals 9 = v9 at *
              subst f9
              have f23 := hf 23 (by decide) (by kernel_rfl)
              generalize vals 23 = v23 at *
              subst f23
              clear hf
              go_wp2_with (fail)
              exact RQ.mk rfl ⟨(by first | rfl | (simp [FS27_6_30]; done) | (simp [FS27_6_30, *]; done) | (simp [FS27_6_30, gotV]; done) | (simp [FS27_6_30, gotV]; omega)), fun h => absurd h (by decide)⟩ (Below.refl _ _)
            | m + 25, h => exact absurd h (by omega)
          · intro vals w1 hb1 hf hd
            simp only [fillA, List.take, List.drop, put_none, Act.put, List.setIfInBounds_toArray, List.set_cons_zero, List.set_cons_succ, Nat.reduceAdd]
            clear hd
            have f0 := hf 0 (by decide)
            generalize vals 0 = v0 at *
            subst f0
            have f1 := hf 1 (by decide)
            generalize vals 1 = v1 at *
            subst f1
            have f2 := hf 2 (by decide)
            generalize vals 2 = v2 at *
            subst f2
            have f3 := hf 3 (by decide)
            generalize vals 3 = v3 at *
            subst f3
            have f4 := hf 4 (by decide)
            generalize vals 4 = v4 at *
            subst f4
            have f5 := hf 5 (by decide)
            generalize vals 5 = v5 at *
            subst f5
            have f6 := hf 6 (by decide)
            generalize vals 6 = v6 at *
            subst f6
            have f7 := hf 7 (by decide)
            generalize vals 7 = v7 at *
            subst f7
            have f8 := hf 8 (by decide)
            generalize vals 8 = v8 at *
            subst f8
            have f9 := hf 9 (by decide)
            generalize vals 9 = v9 at *
            subst f9
            have f10 := hf 10 (by decide)
            generalize vals 10 = v10 at *
            subst f10
            have f11 := hf 11 (by decide)
            generalize vals 11 = v11 at *
            subst f11
            have f12 := hf 12 (by decide)
            generalize vals 12 = v12 at *
            subst f12
            have f13 := hf 13 (by decide)
            generalize vals 13 = v13 at *
            subst f13
            have f14 := hf 14 (by decide)
            generalize vals 14 = v14 at *
            subst f14
            have f15 := hf 15 (by decide)
            generalize vals 15 = v15 at *
            subst f15
            have f16 := hf 16 (by decide)
            generalize vals 16 = v16 at *
            subst f16
            have f17 := hf 17 (by decide)
            generalize vals 17 = v17 at *
            subst f17
            have f18 := hf 18 (by decide)
            generalize vals 18 = v18 at *
            subst f18
            have f19 := hf 19 (by decide)
            generalize vals 19 = v19 at *
            subst f19
            have f20 := hf 20 (by decide)
            generalize vals 20 = v20 at *
            subst f20
            have f21 := hf 21 (by decide)
            generalize vals 21 = v21 at *
            subst f21
            have f22 := hf 22 (by decide)
            generalize vals 22 = v22 at *
            subst f22
            have f23 := hf 23 (by decide)
            generalize vals 23 = v23 at *
            subst f23
            have f24 := hf 24 (by decide)
            generalize vals 24 = v24 at *
            subst f24
            clear hf
            have hc1 := cellOf hb1
            have hf1 := frozOf hb1
            have hz1 := sizeOf hb1
            try simp at hz1
            go_wp2_with (fail)
            go_ret
            exact ⟨ret_bool (by rw [HB.out (by rw [HV.out, HG.out]; rfl)]), by (repeat' (first | exact Below.refl _ _ | assumption | refine Below.setCell ?_ ?_ _ | refine Below.drew ?_ | refine Below.alloc ?_ ?_ _ | refine Below.trans ?_ (Below.mono (by assumption) ?_) | (simp; done) | (simp; omega) | omega))⟩
        have hxm := minB_bd hm
        by_cases hg : mayB d xs x = true
        rotate_left
        · have HG : Hid (mayB d xs x = false) := by show _ = _; simpa using hg
          clear hg
          have hg := HG.out
          go_wp2_with (fail)
          refine wp_region_w (n := 25) [] [] (FS27_6_31 d A xs x y bx ox k xs.length pl.length cap capp w) rfl (by kernel_rfl) (fun _ _ d _ _ h => by cases d <;> exact h) ?_ ?_ ?_ ?_ ?_ ?_
          · intro iq
            match iq with
            | 0 | 1 | 2 | 3 | 4 | 5 | 6 | 7 | 8 | 9 | 10 | 11 | 12 | 13 | 14 | 15 | 16 | 17 | 18 | 19 | 20 | 21 | 22 | 23 | 24 => exact Stable.const _
            | n + 25 => exact Stable.const _
          · intro iq hi
            exact absurd hi (by simp)
          · intro iq hi
            exact absurd hi (by simp)
          · intro iq o hi hl ho vals w1 hb1 hf
            exact absurd hl (by simp)
          · intro iq o hi hl ho vals w1 hb1 hf
            match iq, hi with
            | 0, _ =>
              injection ho with ho
              subst ho
              clear hl
              simp only [fillA, List.take, List.drop, put_none, Act.put, List.setIfInBounds_toArray, List.set_cons_zero, List.set_cons_succ, Nat.reduceAdd]
              clear hf
              go_wp2_with (fail)
              exact RQ.mk rfl ⟨(by first | rfl | (simp [FS27_6_31]; done) | (simp [FS27_6_31, *]; done) | (simp [FS27_6_31, gotV]; done) | (simp [FS27_6_31, gotV]; omega)), fun h => absurd h (by decide)⟩ (Below.refl _ _)
            | 1, _ =>
              injection ho with ho
              subst ho
              clear hl
              simp only [fillA, List.take, List.drop, put_none, Act.put, List.setIfInBounds_toArray, List.set_cons_zero, List.set_cons_succ, Nat.reduceAdd]
              have f0 := hf 0 (by decide) (by kernel_rfl)
              generalize vals 0 = v0 at *
              subst f0
              clear hf
              have hc1 := cellOf hb1
              have hf1 := frozOf hb1
              have hz1 := sizeOf hb1
              try simp at hz1
              go_wp2_with (first | (go_at_call 57; refine (c_impl_isMinute _ _ ).mono ?_; rintro e w' ⟨rfl, hb⟩; have hc := cellOf hb; have hf := frozOf hb; have hz := sizeOf hb; try simp at hz))
              exact RQ.mk rfl ⟨(by first | rfl | (simp [FS27_6_31]; done) | (simp [FS27_6_31, *]; done) | (simp [FS27_6_31, gotV]; done) | (simp [FS27_6_31, gotV]; omega)), fun h => absurd h (by decide)⟩ (by (repeat' (first | exact Below.refl _ _ | assumption | refine Below.setCell ?_ ?_ _ | refine Below.drew ?_ | refine Below.alloc ?_ ?_ _ | refine Below.trans ?_ (Below.mono (by assumption) ?_) | (simp; done) | (simp; omega) | omega)))
            | 2, _ =>
              injection ho with ho
              subst ho
              clear hl
              simp only [fillA, List.take, List.drop, put_none, Act.put, List.setIfInBounds_toArray, List.set_cons_zero, List.set_cons_succ, Nat.reduceAdd]
              have f1 := hf 1 (by decide) (by kernel_rfl)
              generalize vals 1 = v1 at *
              subst f1
              clear hf
              go_wp2_with (fail)
              exact RQ.mk rfl ⟨(by first | rfl | (simp [FS27_6_31]; done) | (simp [FS27_6_31, *]; done) | (simp [FS27_6_31, gotV]; done) | (simp [FS27_6_31, gotV]; omega)), fun h => absurd h (by decide)⟩ (Below.refl _ _)
            | 3, _ =>
              injection ho with ho
              subst ho
              clear hl
              simp only [fillA, List.take, List.drop, put_none, Act.put, List.setIfInBounds_toArray, List.set_cons_zero, List.set_cons_succ, Nat.reduceAdd]
              have f2 := hf 2 (by decide) (by kernel_rfl)
              generalize vals 2 = v2 at *
              subst f2
              have f1 := hf 1 (by decide) (by kernel_rfl)
              generalize vals 1 = v1 at *
              subst f1
              clear hf
              go_wp2_with (fail)
              exact RQ.mk rfl ⟨(by first | rfl | (simp [FS27_6_31]; done) | (simp [FS27_6_31, *]; done) | (simp [FS27_6_31, gotV]; done) | (simp [FS27_6_31, gotV]; omega)), fun h => absurd h (by decide)⟩ (Below.refl _ _)
            | 4, _ =>
              injection ho with ho
              subst ho
              clear hl
              simp only [fillA, List.take, List.drop, put_none, Act.put, List.setIfInBounds_toArray, List.set_cons_zero, List.set_cons_succ, Nat.reduceAdd]
              have f3 := hf 3 (by decide) (by kernel_rfl)
              generalize vals 3 = v3 at *
              subst f3
              clear hf
              have hc1 := cellOf hb1
              have hf1 := frozOf hb1
              have hz1 := sizeOf hb1
              try simp at hz1
              go_wp2_with (fail)
              exact RQ.mk rfl ⟨(by first | rfl | (simp [FS27_6_31]; done) | (simp [FS27_6_31, *]; done) | (simp [FS27_6_31, gotV]; done) | (simp [FS27_6_31, gotV]; omega)), fun h => absurd h (by decide)⟩ (Below.refl _ _)
            | 5, _ =>
              injection ho with ho
              subst ho
              clear hl
              simp only [fillA, List.take, List.drop, put_none, Act.put, List.setIfInBounds_toArray, List.set_cons_zero, List.set_cons_succ, Nat.reduceAdd]
              have f3 := hf 3 (by decide) (by kernel_rfl)
              generalize vals 3 = v3 at *
              subst f3
              clear hf
              go_wp2_with (fail)
              exact RQ.mk rfl ⟨(by first | rfl | (simp [FS27_6_31]; done) | (simp [FS27_6_31, *]; done) | (simp [FS27_6_31, gotV]; done) | (simp [FS27_6_31, gotV]; omega)), fun h => absurd h (by decide)⟩ (Below.refl _ _)
            | 6, _ =>
              injection ho with ho
              subst ho
              clear hl
              simp only [fillA, List.take, List.drop, put_none, Act.put, List.setIfInBounds_toArray, List.set_cons_zero, List.set_cons_succ, Nat.reduceAdd]
              have f4 := hf 4 (by decide) (by kernel_rfl)
              generalize vals 4 = v4 at *
              subst f4
              have f5 := hf 5 (by decide) (by kernel_rfl)
              generalize vals 5 = v5 at *
              subst f5
              have f3 := hf 3 (by decide) (by kernel_rfl)
              generalize vals 3 = v3 at *
              subst f3
              clear hf
              have hc1 := cellOf hb1
              have hf1 := frozOf hb1
              have hz1 := sizeOf hb1
              try simp at hz1
              go_wp2_with (first | (go_at_call 58; refine (c_impl_mayOpen _ _ _ _ _ _ _ (by first | assumption | exact Rds.below hx (by (repeat' (first | exact Below.refl _ _ | assumption | refine Below.setCell ?_ ?_ _ | refine Below.drew ?_ | refine Below.alloc ?_ ?_ _ | refine Below.trans ?_ (Below.mono (by assumption) ?_) | (simp; done) | (simp; omega) | omega)))) rfl (by omega) hok (by omega) (by omega)).mono ?_; rintro e w' ⟨rfl, hb⟩; have hc := cellOf hb; have hf := frozOf hb; have hz := sizeOf hb; try simp at hz))
              exact RQ.mk rfl ⟨(by first | rfl | (simp [FS27_6_31]; done) | (simp [FS27_6_31, *]; done) | (simp [FS27_6_31, gotV]; done) | (simp [FS27_6_31, gotV]; omega)), fun h => absurd h (by decide)⟩ (by (repeat' (first | exact Below.refl _ _ | assumption | refine Below.setCell ?_ ?_ _ | refine Below.drew ?_ | refine Below.alloc ?_ ?_ _ | refine Below.trans ?_ (Below.mono (by assumption) ?_) | (simp; done) | (simp; omega) | omega)))
            | 7, _ =>
              injection ho with ho
              subst ho
              clear hl
              simp only [fillA, List.take, List.drop, put_none, Act.put, List.setIfInBounds_toArray, List.set_cons_zero, List.set_cons_succ, Nat.reduceAdd]
              have f6 := hf 6 (by decide) (by kernel_rfl)
              generalize vals 6 = v6 at *
              subst f6
              have f3 := hf 3 (by decide) (by kernel_rfl)
              generalize vals 3 = v3 at *
              subst f3
              clear hf
              go_wp2_with (fail)
              exact RQ.mk rfl ⟨(by first | rfl | (simp [FS27_6_31]; done) | (simp [FS27_6_31, *]; done) | (simp [FS27_6_31, gotV]; done) | (simp [FS27_6_31, gotV]; omega)), fun h => absurd h (by decide)⟩ (Below.refl _ _)
            | 8, _ =>
              injection ho with ho
              subst ho
              clear hl
              simp only [fillA, List.take, List.drop, put_none, Act.put, List.setIfInBounds_toArray, List.set_cons_zero, List.set_cons_succ, Nat.reduceAdd]
              have f3 := hf 3 (by decide) (by kernel_rfl)
              generalize vals 3 = v3 at *
              subst f3
              have f7 := hf 7 (by decide) (by kernel_rfl)
              generalize vals 7 = v7 at *
              subst f7
              clear hf
              go_wp2_with (fail)
              exact RQ.mk rfl ⟨(by first | rfl | (simp [FS27_6_31]; done) | (simp [FS27_6_31, *]; done) | (simp [FS27_6_31, gotV]; done) | (simp [FS27_6_31, gotV]; omega)), fun h => absurd h (by decide)⟩ (Below.refl _ _)
            | 9, _ =>
              injection ho with ho
              subst ho
              clear hl
              simp only [fillA, List.take, List.drop, put_none, Act.put, List.setIfInBounds_toArray, List.set_cons_zero, List.set_cons_succ, Nat.reduceAdd]
              have f8 := hf 8 (by decide) (by kernel_rfl)
              generalize vals 8 = v8 at *
              subst f8
              have f6 := hf 6 (by decide) (by kernel_rfl)
              generalize vals 6 = v6 at *
              subst f6
              clear hf
              go_wp2_with (fail)
              exact RQ.mk rfl ⟨(by first | rfl | (simp [FS27_6_31]; done) | (simp [FS27_6_31, *]; done) | (simp [FS27_6_31, gotV]; done) | (simp [FS27_6_31, gotV]; omega)), fun h => absurd h (by decide)⟩ (Below.refl _ _)
            | 10, _ =>
              injection ho with ho
              subst ho
              clear hl
              simp only [fillA, List.take, List.drop, put_none, Act.put, List.setIfInBounds_toArray, List.set_cons_zero, List.set_cons_succ, Nat.reduceAdd]
              have f9 := hf 9 (by decide) (by kernel_rfl)
              generalize vals 9 = v9 at *
              subst f9
              clear hf
              go_wp2_with (fail)
              exact RQ.mk rfl ⟨(by first | rfl | (simp [FS27_6_31]; done) | (simp [FS27_6_31, *]; done) | (simp [FS27_6_31, gotV]; done) | (simp [FS27_6_31, gotV]; omega)), fun h => absurd h (by decide)⟩ (Below.refl _ _)
            | 11, _ =>
              injection ho with ho
              subst ho
              clear hl
              simp only [fillA, List.take, List.drop, put_none, Act.put, List.setIfInBounds_toArray, List.set_cons_zero, List.set_cons_succ, Nat.reduceAdd]
              have f10 := hf 10 (by decide) (by kernel_rfl)
              generalize vals 10 = v10 at *
              subst f10
              have f9 := hf 9 (by decide) (by kernel_rfl)
              generalize vals 9 = v9 at *
              subst f9
              clear hf
              go_wp2_with (fail)
              exact RQ.mk rfl ⟨(by first | rfl | (simp [FS27_6_31]; done) | (simp [FS27_6_31, *]; done) | (simp [FS27_6_31, gotV]; done) | (simp [FS27_6_31, gotV]; omega)), fun h => absurd h (by decide)⟩ (Below.refl _ _)
            | 12, _ =>
              injection ho with ho
              subst ho
              clear hl
              simp only [fillA, List.take, List.drop, put_none, Act.put, List.setIfInBounds_toArray, List.set_cons_zero, List.set_cons_succ, Nat.reduceAdd]
              have f11 := hf 11 (by decide) (by kernel_rfl)
              generalize vals 11 = v11 at *
              subst f11
              have f9 := hf 9 (by decide) (by kernel_rfl)
              generalize vals 9 = v9 at *
              subst f9
              clear hf
              go_wp2_with (fail)
              exact RQ.mk rfl ⟨(by first | rfl | (simp [FS27_6_31]; done) | (simp [FS27_6_31, *]; done) | (simp [FS27_6_31, gotV]; done) | (simp [FS27_6_31, gotV]; omega)), fun h => absurd h (by decide)⟩ (Below.refl _ _)
            | 13, _ =>
              injection ho with ho
              subst ho
              clear hl
              simp only [fillA, List.take, List.drop, put_none, Act.put, List.setIfInBounds_toArray, List.set_cons_zero, List.set_cons_succ, Nat.reduceAdd]
              have f12 := hf 12 (by decide) (by kernel_rfl)
              generalize vals 12 = v12 at *
              subst f12
              clear hf
              go_wp2_with (fail)
              exact RQ.mk rfl ⟨(by first | rfl | (simp [FS27_6_31]; done) | (simp [FS27_6_31, *]; done) | (simp [FS27_6_31, gotV]; done) | (simp [FS27_6_31, gotV]; omega)), fun h => absurd h (by decide)⟩ (Below.refl _ _)
            | 14, _ =>
              injection ho with ho
              subst ho
              clear hl
              simp only [fillA, List.take, List.drop, put_none, Act.put, List.setIfInBounds_toArray, List.set_cons_zero, List.set_cons_succ, Nat.reduceAdd]
              have f12 := hf 12 (by decide) (by kernel_rfl)
              generalize vals 12 = v12 at *
              subst f12
              clear hf
              go_wp2_with (fail)
              exact RQ.mk rfl ⟨(by first | rfl | (simp [FS27_6_31]; done) | (simp [FS27_6_31, *]; done) | (simp [FS27_6_31, gotV]; done) | (simp [FS27_6_31, gotV]; omega)), fun h => absurd h (by decide)⟩ (Below.refl _ _)
            | 15, _ =>
              injection ho with ho
              subst ho
              clear hl
              simp only [fillA, List.take, List.drop, put_none, Act.put, List.setIfInBounds_toArray, List.set_cons_zero, List.set_cons_succ, Nat.reduceAdd]
              have f12 := hf 12 (by decide) (by kernel_rfl)
              generalize vals 12 = v12 at *
              subst f12
              clear hf
              go_wp2_with (fail)
              exact RQ.mk rfl ⟨(by first | rfl | (simp [FS27_6_31]; done) | (simp [FS27_6_31, *]; done) | (simp [FS27_6_31, gotV]; done) | (simp [FS27_6_31, gotV]; omega)), fun h => absurd h (by decide)⟩ (Below.refl _ _)
            | 16, _ =>
              injection ho with ho
              subst ho
              clear hl
              simp only [fillA, List.take, List.drop, put_none, Act.put, List.setIfInBounds_toArray, List.set_cons_zero, List.set_cons_succ, Nat.reduceAdd]
              have f15 := hf 15 (by decide) (by kernel_rfl)
              generalize vals 15 = v15 at *
              subst f15
              have f12 := hf 12 (by decide) (by kernel_rfl)
              generalize vals 12 = v12 at *
              subst f12
              clear hf
              go_wp2_with (fail)
              exact RQ.mk rfl ⟨(by first | rfl | (simp [FS27_6_31]; done) | (simp [FS27_6_31, *]; done) | (simp [FS27_6_31, gotV]; done) | (simp [FS27_6_31, gotV]; omega)), fun h => absurd h (by decide)⟩ (Below.refl _ _)
            | 17, _ =>
              injection ho with ho
              subst ho
              clear hl
              simp only [fillA, List.take, List.drop, put_none, Act.put, List.setIfInBounds_toArray, List.set_cons_zero, List.set_cons_succ, Nat.reduceAdd]
              have f14 := hf 14 (by decide) (by kernel_rfl)
              generalize vals 14 = v14 at *
              subst f14
              have f16 := hf 16 (by decide) (by kernel_rfl)
              generalize vals 16 = v16 at *
              subst f16
              have f12 := hf 12 (by decide) (by kernel_rfl)
              generalize vals 12 = v12 at *
              subst f12
              clear hf
              go_wp2_with (fail)
              exact RQ.mk rfl ⟨(by first | rfl | (simp [FS27_6_31]; done) | (simp [FS27_6_31, *]; done) | (simp [FS27_6_31, gotV]; done) | (simp [FS27_6_31, gotV]; omega)), fun h => absurd h (by decide)⟩ (Below.refl _ _)
            | 18, _ =>
              injection ho with ho
              subst ho
              clear hl
              simp only [fillA, List.take, List.drop, put_none, Act.put, List.setIfInBounds_toArray, List.set_cons_zero, List.set_cons_succ, Nat.reduceAdd]
              have f17 := hf 17 (by decide) (by kernel_rfl)
              generalize vals 17 = v17 at *
              subst f17
              have f12 := hf 12 (by decide) (by kernel_rfl)
              generalize vals 12 = v12 at *
              subst f12
              clear hf
              go_wp2_with (fail)
              exact RQ.mk rfl ⟨(by first | rfl | (simp [FS27_6_31]; done) | (simp [FS27_6_31, *]; done) | (simp [FS27_6_31, gotV]; done) | (simp [FS27_6_31, gotV]; omega)), fun h => absurd h (by decide)⟩ (Below.refl _ _)
            | 19, _ =>
              injection ho with ho
              subst ho
              clear hl
              simp only [fillA, List.take, List.drop, put_none, Act.put, List.setIfInBounds_toArray, List.set_cons_zero, List.set_cons_succ, Nat.reduceAdd]
              have f13 := hf 13 (by decide) (by kernel_rfl)
              generalize vals 13 = v13 at *
              subst f13
              have f18 := hf 18 (by decide) (by kernel_rfl)
              generalize vals 18 = v18 at *
              subst f18
              have f12 := hf 12 (by decide) (by kernel_rfl)
              generalize vals 12 = v12 at *
              subst f12
              clear hf
              go_wp2_with (fail)
              exact RQ.mk rfl ⟨(by first | rfl | (simp [FS27_6_31]; done) | (simp [FS27_6_31, *]; done) | (simp [FS27_6_31, gotV]; done) | (simp [FS27_6_31, gotV]; omega)), fun h => absurd h (by decide)⟩ (Below.refl _ _)
            | 20, _ =>
              injection ho with ho
              subst ho
              clear hl
              simp only [fillA, List.take, List.drop, put_none, Act.put, List.setIfInBounds_toArray, List.set_cons_zero, List.set_cons_succ, Nat.reduceAdd]
              have f12 := hf 12 (by decide) (by kernel_rfl)
              generalize vals 12 = v12 at *
              subst f12
              clear hf
              go_wp2_with (fail)
              exact RQ.mk rfl ⟨(by first | rfl | (simp [FS27_6_31]; done) | (simp [FS27_6_31, *]; done) | (simp [FS27_6_31, gotV]; done) | (simp [FS27_6_31, gotV]; omega)), fun h => absurd h (by decide)⟩ (Below.refl _ _)
            | 21, _ =>
              injection ho with ho
              subst ho
              clear hl
              simp only [fillA, List.take, List.drop, put_none, Act.put, List.setIfInBounds_toArray, List.set_cons_zero, List.set_cons_succ, Nat.reduceAdd]
              have f20 := hf 20 (by decide) (by kernel_rfl)
              generalize vals 20 = v20 at *
              subst f20
              have f12 := hf 12 (by decide) (by kernel_rfl)
              generalize vals 12 = v12 at *
              subst f12
              clear hf
              go_wp2_with (fail)
              exact RQ.mk rfl ⟨(by first | rfl | (simp [FS27_6_31]; done) | (simp [FS27_6_31, *]; done) | (simp [FS27_6_31, gotV]; done) | (simp [FS27_6_31, gotV]; omega)), fun h => absurd h (by decide)⟩ (Below.refl _ _)
            | 22, _ =>
              injection ho with ho
              subst ho
              clear hl
              simp only [fillA, List.take, List.drop, put_none, Act.put, List.setIfInBounds_toArray, List.set_cons_zero, List.set_cons_succ, Nat.reduceAdd]
              have f19 := hf 19 (by decide) (by kernel_rfl)
              generalize vals 19 = v19 at *
              subst f19
              have f21 := hf 21 (by decide) (by kernel_rfl)
              generalize vals 21 = v21 at *
              subst f21
              have f12 := hf 12 (by decide) (by kernel_rfl)
              generalize vals 12 = v12 at *
              subst f12
              clear hf
              go_wp2_with (fail)
              exact RQ.mk rfl ⟨(by first | rfl | (simp [FS27_6_31]; done) | (simp [FS27_6_31, *]; done) | (simp [FS27_6_31, gotV]; done) | (simp [FS27_6_31, gotV]; omega)), fun h => absurd h (by decide)⟩ (Below.refl _ _)
            | 23, _ =>
              injection ho with ho
              subst ho
              clear hl
              simp only [fillA, List.take, List.drop, put_none, Act.put, List.setIfInBounds_toArray, List.set_cons_zero, List.set_cons_succ, Nat.reduceAdd]
              have f12 := hf 12 (by decide) (by kernel_rfl)
              generalize vals 12 = v12 at *
              subst f12
              have f22 := hf 22 (by decide) (by kernel_rfl)
              generalize vals 22 = v22 at *
              subst f22
              have f9 := hf 9 (by decide) (by kernel_rfl)
              generalize vals 9 = v9 at *
              subst f9
              clear hf
              go_wp2_with (fail)
              exact RQ.mk rfl ⟨(by first | rfl | (simp [FS27_6_31]; done) | (simp [FS27_6_31, *]; done) | (simp [FS27_6_31, gotV]; done) | (simp [FS27_6_31, gotV]; omega)), fun h => absurd h (by decide)⟩ (Below.refl _ _)
            | 24, _ =>
              injection ho with ho
              subst ho
              clear hl
              simp only [fillA, List.take, List.drop, put_none, Act.put, List.setIfInBounds_toArray, List.set_cons_zero, List.set_cons_succ, Nat.reduceAdd]
              have f9 := hf 9 (by decide) (by kernel_rfl)
              generalize vals 9 = v9 at *
              subst f9
              have f23 := hf 23 (by decide) (by kernel_rfl)
              generalize vals 23 = v23 at *
              subst f23
              clear hf
              go_wp2_with (fail)
              exact RQ.mk rfl ⟨(by first | rfl | (simp [FS27_6_31]; done) | (simp [FS27_6_31, *]; done) | (simp [FS27_6_31, gotV]; done) | (simp [FS27_6_31, gotV]; omega)), fun h => absurd h (by decide)⟩ (Below.refl _ _)
            | m + 25, h => exact absurd h (by omega)
          · intro vals w1 hb1 hf hd
            simp only [fillA, List.take, List.drop, put_none, Act.put, List.setIfInBounds_toArray, List.set_cons_zero, List.set_cons_succ, Nat.reduceAdd]
            clear hd
            have f0 := hf 0 (by decide)
            generalize vals 0 = v0 at *
            subst f0
            have f1 := hf 1 (by decide)
            generalize vals 1 = v1 at *
            subst f1
            have f2 := hf 2 (by decide)
            generalize vals 2 = v2 at *
            subst f2
            have f3 := hf 3 (by decide)
            generalize vals 3 = v3 at *
            subst f3
            have f4 := hf 4 (by decide)
            generalize vals 4 = v4 at *
            subst f4
            have f5 := hf 5 (by decide)
            generalize vals 5 = v5 at *
            subst f5
            have f6 := hf 6 (by decide)
            generalize vals 6 = v6 at *
            subst f6
            have f7 := hf 7 (by decide)
            generalize vals 7 = v7 at *
            subst f7
            have f8 := hf 8 (by decide)
            generalize vals 8 = v8 at *
            subst f8
            have f9 := hf 9 (by decide)
            generalize vals 9 = v9 at *
            subst f9
            have f10 := hf 10 (by decide)
            generalize vals 10 = v10 at *
            subst f10
            have f11 := hf 11 (by decide)
            generalize vals 11 = v11 at *
            subst f11
            have f12 := hf 12 (by decide)
            generalize vals 12 = v12 at *
            subst f12
            have f13 := hf 13 (by decide)
            generalize vals 13 = v13 at *
            subst f13
            have f14 := hf 14 (by decide)
            generalize vals 14 = v14 at *
            subst f14
            have f15 := hf 15 (by decide)
            generalize vals 15 = v15 at *
            subst f15
            have f16 := hf 16 (by decide)
            generalize vals 16 = v16 at *
            subst f16
            have f17 := hf 17 (by decide)
            generalize vals 17 = v17 at *
            subst f17
            have f18 := hf 18 (by decide)
            generalize vals 18 = v18 at *
            subst f18
            have f19 := hf 19 (by decide)
            generalize vals 19 = v19 at *
            subst f19
            have f20 := hf 20 (by decide)
            generalize vals 20 = v20 at *
            subst f20
            have f21 := hf 21 (by decide)
            generalize vals 21 = v21 at *
            subst f21
            have f22 := hf 22 (by decide)
            generalize vals 22 = v22 at *
            subst f22
            have f23 := hf 23 (by decide)
            generalize vals 23 = v23 at *
            subst f23
            have f24 := hf 24 (by decide)
            generalize vals 24 = v24 at *
            subst f24
            clear hf
            have hc1 := cellOf hb1
            have hf1 := frozOf hb1
            have hz1 := sizeOf hb1
            try simp at hz1
            go_wp2_with (fail)
            go_ret
            exact ⟨ret_bool (by rw [HB.out (by rw [HV.out, HG.out]; rfl)]), by (repeat' (first | exact Below.refl _ _ | assumption | refine Below.setCell ?_ ?_ _ | refine Below.drew ?_ | refine Below.alloc ?_ ?_ _ | refine Below.trans ?_ (Below.mono (by assumption) ?_) | (simp; done) | (simp; omega) | omega))⟩
        have HG := hid hg
        by_cases hl2 : x - y < d
        · have H2 := hid (show gapLe d y x = false by simp [gapLe]; omega)
          go_wp2_with (fail)
          refine wp_region_w (n := 25) [] [] (FS27_6_32 d A xs x y bx ox k xs.length pl.length cap capp w) rfl (by kernel_rfl) (fun _ _ d _ _ h => by cases d <;> exact h) ?_ ?_ ?_ ?_ ?_ ?_
          · intro iq
            match iq with
            | 0 | 1 | 2 | 3 | 4 | 5 | 6 | 7 | 8 | 9 | 10 | 11 | 12 | 13 | 14 | 15 | 16 | 17 | 18 | 19 | 20 | 21 | 22 | 23 | 24 => exact Stable.const _
            | n + 25 => exact Stable.const _
          · intro iq hi
            exact absurd hi (by simp)
          · intro iq hi
            exact absurd hi (by simp)
          · intro iq o hi hl ho vals w1 hb1 hf
            exact absurd hl (by simp)
          · intro iq o hi hl ho vals w1 hb1 hf
            match iq, hi with
            | 0, _ =>
              injection ho with ho
              subst ho
              clear hl
              simp only [fillA, List.take, List.drop, put_none, Act.put, List.setIfInBounds_toArray, List.set_cons_zero, List.set_cons_succ, Nat.reduceAdd]
              clear hf
              go_wp2_with (fail)
              exact RQ.mk rfl ⟨(by first | rfl | (simp [FS27_6_32]; done) | (simp [FS27_6_32, *]; done) | (simp [FS27_6_32, gotV]; done) | (simp [FS27_6_32, gotV]; omega)), fun h => absurd h (by decide)⟩ (Below.refl _ _)
            | 1, _ =>
              injection ho with ho
              subst ho
              clear hl
              simp only [fillA, List.take, List.drop, put_none, Act.put, List.setIfInBounds_toArray, List.set_cons_zero, List.set_cons_succ, Nat.reduceAdd]
              have f0 := hf 0 (by decide) (by kernel_rfl)
              generalize vals 0 = v0 at *
              subst f0
              clear hf
              have hc1 := cellOf hb1
              have hf1 := frozOf hb1
              have hz1 := sizeOf hb1
              try simp at hz1
              go_wp2_with (first | (go_at_call 57; refine (c_impl_isMinute _ _ ).mono ?_; rintro e w' ⟨rfl, hb⟩; have hc := cellOf hb; have hf := frozOf hb; have hz := sizeOf hb; try simp at hz))
              exact RQ.mk rfl ⟨(by first | rfl | (simp [FS27_6_32]; done) | (simp [FS27_6_32, *]; done) | (simp [FS27_6_32, gotV]; done) | (simp [FS27_6_32, gotV]; omega)), fun h => absurd h (by decide)⟩ (by (repeat' (first | exact Below.refl _ _ | assumption | refine Below.setCell ?_ ?_ _ | refine Below.drew ?_ | refine Below.alloc ?_ ?_ _ | refine Below.trans ?_ (Below.mono (by assumption) ?_) | (simp; done) | (simp; omega) | omega)))
            | 2, _ =>
              injection ho with ho
              subst ho
              clear hl
              simp only [fillA, List.take, List.drop, put_none, Act.put, List.setIfInBounds_toArray, List.set_cons_zero, List.set_cons_succ, Nat.reduceAdd]
              have f1 := hf 1 (by decide) (by kernel_rfl)
              generalize vals 1 = v1 at *
              subst f1
              clear hf
              go_wp2_with (fail)
              exact RQ.mk rfl ⟨(by first | rfl | (simp [FS27_6_32]; done) | (simp [FS27_6_32, *]; done) | (simp [FS27_6_32, gotV]; done) | (simp [FS27_6_32, gotV]; omega)), fun h => absurd h (by decide)⟩ (Below.refl _ _)
            | 3, _ =>
              injection ho with ho
              subst ho
              clear hl
              simp only [fillA, List.take, List.drop, put_none, Act.put, List.setIfInBounds_toArray, List.set_cons_zero, List.set_cons_succ, Nat.reduceAdd]
              have f2 := hf 2 (by decide) (by kernel_rfl)
              generalize vals 2 = v2 at *
              subst f2
              have f1 := hf 1 (by decide) (by kernel_rfl)
              generalize vals 1 = v1 at *
              subst f1
              clear hf
              go_wp2_with (fail)
              exact RQ.mk rfl ⟨(by first | rfl | (simp [FS27_6_32]; done) | (simp [FS27_6_32, *]; done) | (simp [FS27_6_32, gotV]; done) | (simp [FS27_6_32, gotV]; omega)), fun h => absurd h (by decide)⟩ (Below.refl _ _)
            | 4, _ =>
              injection ho with ho
              subst ho
              clear hl
              simp only [fillA, List.take, List.drop, put_none, Act.put, List.setIfInBounds_toArray, List.set_cons_zero, List.set_cons_succ, Nat.reduceAdd]
              have f3 := hf 3 (by decide) (by kernel_rfl)
              generalize vals 3 = v3 at *
              subst f3
              clear hf
              have hc1 := cellOf hb1
              have hf1 := frozOf hb1
              have hz1 := sizeOf hb1
              try simp at hz1
              go_wp2_with (fail)
              exact RQ.mk rfl ⟨(by first | rfl | (simp [FS27_6_32]; done) | (simp [FS27_6_32, *]; done) | (simp [FS27_6_32, gotV]; done) | (simp [FS27_6_32, gotV]; omega)), fun h => absurd h (by decide)⟩ (Below.refl _ _)
            | 5, _ =>
              injection ho with ho
              subst ho
              clear hl
              simp only [fillA, List.take, List.drop, put_none, Act.put, List.setIfInBounds_toArray, List.set_cons_zero, List.set_cons_succ, Nat.reduceAdd]
              have f3 := hf 3 (by decide) (by kernel_rfl)
              generalize vals 3 = v3 at *
              subst f3
              clear hf
              go_wp2_with (fail)
              exact RQ.mk rfl ⟨(by first | rfl | (simp [FS27_6_32]; done) | (simp [FS27_6_32, *]; done) | (simp [FS27_6_32, gotV]; done) | (simp [FS27_6_32, gotV]; omega)), fun h => absurd h (by decide)⟩ (Below.refl _ _)
            | 6, _ =>
              injection ho with ho
              subst ho
              clear hl
              simp only [fillA, List.take, List.drop, put_none, Act.put, List.setIfInBounds_toArray, List.set_cons_zero, List.set_cons_succ, Nat.reduceAdd]
              have f4 := hf 4 (by decide) (by kernel_rfl)
              generalize vals 4 = v4 at *
              subst f4
              have f5 := hf 5 (by decide) (by kernel_rfl)
              generalize vals 5 = v5 at *
              subst f5
              have f3 := hf 3 (by decide) (by kernel_rfl)
              generalize vals 3 = v3 at *
              subst f3
              clear hf
              have hc1 := cellOf hb1
              have hf1 := frozOf hb1
              have hz1 := sizeOf hb1
              try simp at hz1
              go_wp2_with (first | (go_at_call 58; refine (c_impl_mayOpen _ _ _ _ _ _ _ (by first | assumption | exact Rds.below hx (by (repeat' (first | exact Below.refl _ _ | assumption | refine Below.setCell ?_ ?_ _ | refine Below.drew ?_ | refine Below.alloc ?_ ?_ _ | refine Below.trans ?_ (Below.mono (by assumption) ?_) | (simp; done) | (simp; omega) | omega)))) rfl (by omega) hok (by omega) (by omega)).mono ?_; rintro e w' ⟨rfl, hb⟩; have hc := cellOf hb; have hf := frozOf hb; have hz := sizeOf hb; try simp at hz))
              exact RQ.mk rfl ⟨(by first | rfl | (simp [FS27_6_32]; done) | (simp [FS27_6_32, *]; done) | (simp [FS27_6_32, gotV]; done) | (simp [FS27_6_32, gotV]; omega)), fun h => absurd h (by decide)⟩ (by (repeat' (first | exact Below.refl _ _ | assumption | refine Below.setCell ?_ ?_ _ | refine Below.drew ?_ | refine Below.alloc ?_ ?_ _ | refine Below.trans ?_ (Below.mono (by assumption) ?_) | (simp; done) | (simp; omega) | omega)))
            | 7, _ =>
              injection ho with ho
              subst ho
              clear hl
              simp only [fillA, List.take, List.drop, put_none, Act.put, List.setIfInBounds_toArray, List.set_cons_zero, List.set_cons_succ, Nat.reduceAdd]
              have f6 := hf 6 (by decide) (by kernel_rfl)
              generalize vals 6 = v6 at *
              subst f6
              have f3 := hf 3 (by decide) (by kernel_rfl)
              generalize vals 3 = v3 at *
              subst f3
              clear hf
              go_wp2_with (fail)
              exact RQ.mk rfl ⟨(by first | rfl | (simp [FS27_6_32]; done) | (simp [FS27_6_32, *]; done) | (simp [FS27_6_32, gotV]; done) | (simp [FS27_6_32, gotV]; omega)), fun h => absurd h (by decide)⟩ (Below.refl _ _)
            | 8, _ =>
              injection ho with ho
              subst ho
              clear hl
              simp only [fillA, List.take, List.drop, put_none, Act.put, List.setIfInBounds_toArray, List.set_cons_zero, List.set_cons_succ, Nat.reduceAdd]
              have f3 := hf 3 (by decide) (by kernel_rfl)
              generalize vals 3 = v3 at *
              subst f3
              have f7 := hf 7 (by decide) (by kernel_rfl)
              generalize vals 7 = v7 at *
              subst f7
              clear hf
              go_wp2_with (fail)
              exact RQ.mk rfl ⟨(by first | rfl | (simp [FS27_6_32]; done) | (simp [FS27_6_32, *]; done) | (simp [FS27_6_32, gotV]; done) | (simp [FS27_6_32, gotV]; omega)), fun h => absurd h (by decide)⟩ (Below.refl _ _)
            | 9, _ =>
              injection ho with ho
              subst ho
              clear hl
              simp only [fillA, List.take, List.drop, put_none, Act.put, List.setIfInBounds_toArray, List.set_cons_zero, List.set_cons_succ, Nat.reduceAdd]
              have f8 := hf 8 (by decide) (by kernel_rfl)
              generalize vals 8 = v8 at *
              subst f8
              have f6 := hf 6 (by decide) (by kernel_rfl)
              generalize vals 6 = v6 at *
              subst f6
              clear hf
              go_wp2_with (fail)
              exact RQ.mk rfl ⟨(by first | rfl | (simp [FS27_6_32]; done) | (simp [FS27_6_32, *]; done) | (simp [FS27_6_32, gotV]; done) | (simp [FS27_6_32, gotV]; omega)), fun h => absurd h (by decide)⟩ (Below.refl _ _)
            | 10, _ =>
              injection ho with ho
              subst ho
              clear hl
              simp only [fillA, List.take, List.drop, put_none, Act.put, List.setIfInBounds_toArray, List.set_cons_zero, List.set_cons_succ, Nat.reduceAdd]
              have f9 := hf 9 (by decide) (by kernel_rfl)
              generalize vals 9 = v9 at *
              subst f9
              clear hf
              go_wp2_with (fail)
              exact RQ.mk rfl ⟨(by first | rfl | (simp [FS27_6_32]; done) | (simp [FS27_6_32, *]; done) | (simp [FS27_6_32, gotV]; done) | (simp [FS27_6_32, gotV]; omega)), fun h => absurd h (by decide)⟩ (Below.refl _ _)
            | 11, _ =>
              injection ho with ho
              subst ho
              clear hl
              simp only [fillA, List.take, List.drop, put_none, Act.put, List.setIfInBounds_toArray, List.set_cons_zero, List.set_cons_succ, Nat.reduceAdd]
              have f10 := hf 10 (by decide) (by kernel_rfl)
              generalize vals 10 = v10 at *
              subst f10
              have f9 := hf 9 (by decide) (by kernel_rfl)
              generalize vals 9 = v9 at *
              subst f9
              clear hf
              go_wp2_with (fail)
              exact RQ.mk rfl ⟨(by first | rfl | (simp [FS27_6_32]; done) | (simp [FS27_6_32, *]; done) | (simp [FS27_6_32, gotV]; done) | (simp [FS27_6_32, gotV]; omega)), fun h => absurd h (by decide)⟩ (Below.refl _ _)
            | 12, _ =>
              injection ho with ho
              subst ho
              clear hl
              simp only [fillA, List.take, List.drop, put_none, Act.put, List.setIfInBounds_toArray, List.set_cons_zero, List.set_cons_succ, Nat.reduceAdd]
              have f11 := hf 11 (by decide) (by kernel_rfl)
              generalize vals 11 = v11 at *
              subst f11
              have f9 := hf 9 (by decide) (by kernel_rfl)
              generalize vals 9 = v9 at *
              subst f9
              clear hf
              go_wp2_with (fail)
              exact RQ.mk rfl ⟨(by first | rfl | (simp [FS27_6_32]; done) | (simp [FS27_6_32, *]; done) | (simp [FS27_6_32, gotV]; done) | (simp [FS27_6_32, gotV]; omega)), fun h => absurd h (by decide)⟩ (Below.refl _ _)
            | 13, _ =>
              injection ho with ho
              subst ho
              clear hl
              simp only [fillA, List.take, List.drop, put_none, Act.put, List.setIfInBounds_toArray, List.set_cons_zero, List.set_cons_succ, Nat.reduceAdd]
              have f12 := hf 12 (by decide) (by kernel_rfl)
              generalize vals 12 = v12 at *
              subst f12
              clear hf
              go_wp2_with (fail)
              exact RQ.mk rfl ⟨(by first | rfl | (simp [FS27_6_32]; done) | (simp [FS27_6_32, *]; done) | (simp [FS27_6_32, gotV]; done) | (simp [FS27_6_32, gotV]; omega)), fun h => absurd h (by decide)⟩ (Below.refl _ _)
            | 14, _ =>
              injection ho with ho
              subst ho
              clear hl
              simp only [fillA, List.take, List.drop, put_none, Act.put, List.setIfInBounds_toArray, List.set_cons_zero, List.set_cons_succ, Nat.reduceAdd]
              have f12 := hf 12 (by decide) (by kernel_rfl)
              generalize vals 12 = v12 at *
              subst f12
              clear hf
              go_wp2_with (fail)
              exact RQ.mk rfl ⟨(by first | rfl | (simp [FS27_6_32]; done) | (simp [FS27_6_32, *]; done) | (simp [FS27_6_32, gotV]; done) | (simp [FS27_6_32, gotV]; omega)), fun h => absurd h (by decide)⟩ (Below.refl _ _)
            | 15, _ =>
              injection ho with ho
              subst ho
              clear hl
              simp only [fillA, List.take, List.drop, put_none, Act.put, List.setIfInBounds_toArray, List.set_cons_zero, List.set_cons_succ, Nat.reduceAdd]
              have f12 := hf 12 (by decide) (by kernel_rfl)
              generalize vals 12 = v12 at *
              subst f12
              clear hf
              go_wp2_with (fail)
              exact RQ.mk rfl ⟨(by first | rfl | (simp [FS27_6_32]; done) | (simp [FS27_6_32, *]; done) | (simp [FS27_6_32, gotV]; done) | (simp [FS27_6_32, gotV]; omega)), fun h => absurd h (by decide)⟩ (Below.refl _ _)
            | 16, _ =>
              injection ho with ho
              subst ho
              clear hl
              simp only [fillA, List.take, List.drop, put_none, Act.put, List.setIfInBounds_toArray, List.set_cons_zero, List.set_cons_succ, Nat.reduceAdd]
              have f15 := hf 15 (by decide) (by kernel_rfl)
              generalize vals 15 = v15 at *
              subst f15
              have f12 := hf 12 (by decide) (by kernel_rfl)
              generalize vals 12 = v12 at *
              subst f12
              clear hf
              go_wp2_with (fail)
              exact RQ.mk rfl ⟨(by first | rfl | (simp [FS27_6_32]; done) | (simp [FS27_6_32, *]; done) | (simp [FS27_6_32, gotV]; done) | (simp [FS27_6_32, gotV]; omega)), fun h => absurd h (by decide)⟩ (Below.refl _ _)
            | 17, _ =>
              injection ho with ho
              subst ho
              clear hl
              simp only [fillA, List.take, List.drop, put_none, Act.put, List.setIfInBounds_toArray, List.set_cons_zero, List.set_cons_succ, Nat.reduceAdd]
              have f14 := hf 14 (by decide) (by kernel_rfl)
              generalize vals 14 = v14 at *
              subst f14
              have f16 := hf 16 (by decide) (by kernel_rfl)
              generalize vals 16 = v16 at *
              subst f16
              have f12 := hf 12 (by decide) (by kernel_rfl)
              generalize vals 12 = v12 at *
              subst f12
              clear hf
              go_wp2_with (fail)
              exact RQ.mk rfl ⟨(by first | rfl | (simp [FS27_6_32]; done) | (simp [FS27_6_32, *]; done) | (simp [FS27_6_32, gotV]; done) | (simp [FS27_6_32, gotV]; omega)), fun h => absurd h (by decide)⟩ (Below.refl _ _)
            | 18, _ =>
              injection ho with ho
              subst ho
              clear hl
              simp only [fillA, List.take, List.drop, put_none, Act.put, List.setIfInBounds_toArray, List.set_cons_zero, List.set_cons_succ, Nat.reduceAdd]
              have f17 := hf 17 (by decide) (by kernel_rfl)
              generalize vals 17 = v17 at *
              subst f17
              have f12 := hf 12 (by decide) (by kernel_rfl)
              generalize vals 12 = v12 at *
              subst f12
              clear hf
              have hc1 := cellOf hb1
              have hf1 := frozOf hb1
              have hz1 := sizeOf hb1
              try simp at hz1
              go_wp2_with (fail)
              exact RQ.mk rfl ⟨(by first | rfl | (simp [FS27_6_32]; done) | (simp [FS27_6_32, *]; done) | (simp [FS27_6_32, gotV]; done) | (simp [FS27_6_32, gotV]; omega)), fun h => absurd h (by decide)⟩ (Below.refl _ _)
            | 19, _ =>
              injection ho with ho
              subst ho
              clear hl
              simp only [fillA, List.take, List.drop, put_none, Act.put, List.setIfInBounds_toArray, List.set_cons_zero, List.set_cons_succ, Nat.reduceAdd]
              have f13 := hf 13 (by decide) (by kernel_rfl)
              generalize vals 13 = v13 at *
              subst f13
              have f18 := hf 18 (by decide) (by kernel_rfl)
              generalize vals 18 = v18 at *
              subst f18
              have f12 := hf 12 (by decide) (by kernel_rfl)
              generalize vals 12 = v12 at *
              subst f12
              clear hf
              go_wp2_with (fail)
              exact RQ.mk rfl ⟨(by first | rfl | (simp [FS27_6_32]; done) | (simp [FS27_6_32, *]; done) | (simp [FS27_6_32, gotV]; done) | (simp [FS27_6_32, gotV]; omega)), fun h => absurd h (by decide)⟩ (Below.refl _ _)
            | 20, _ =>
              injection ho with ho
              subst ho
              clear hl
              simp only [fillA, List.take, List.drop, put_none, Act.put, List.setIfInBounds_toArray, List.set_cons_zero, List.set_cons_succ, Nat.reduceAdd]
              have f12 := hf 12 (by decide) (by kernel_rfl)
              generalize vals 12 = v12 at *
              subst f12
              clear hf
              go_wp2_with (fail)
              exact RQ.mk rfl ⟨(by first | rfl | (simp [FS27_6_32]; done) | (simp [FS27_6_32, *]; done) | (simp [FS27_6_32, gotV]; done) | (simp [FS27_6_32, gotV]; omega)), fun h => absurd h (by decide)⟩ (Below.refl _ _)
            | 21, _ =>
              injection ho with ho
              subst ho
              clear hl
              simp only [fillA, List.take, List.drop, put_none, Act.put, List.setIfInBounds_toArray, List.set_cons_zero, List.set_cons_succ, Nat.reduceAdd]
              have f20 := hf 20 (by decide) (by kernel_rfl)
              generalize vals 20 = v20 at *
              subst f20
              have f12 := hf 12 (by decide) (by kernel_rfl)
              generalize vals 12 = v12 at *
              subst f12
              clear hf
              have hc1 := cellOf hb1
              have hf1 := frozOf hb1
              have hz1 := sizeOf hb1
              try simp at hz1
              go_wp2_with (fail)
              exact RQ.mk rfl ⟨(by first | rfl | (simp [FS27_6_32]; done) | (simp [FS27_6_32, *]; done) | (simp [FS27_6_32, gotV]; done) | (simp [FS27_6_32, gotV]; omega)), fun h => absurd h (by decide)⟩ (Below.refl _ _)
            | 22, _ =>
              injection ho with ho
              subst ho
              clear hl
              simp only [fillA, List.take, List.drop, put_none, Act.put, List.setIfInBounds_toArray, List.set_cons_zero, List.set_cons_succ, Nat.reduceAdd]
              have f19 := hf 19 (by decide) (by kernel_rfl)
              generalize vals 19 = v19 at *
              subst f19
              have f21 := hf 21 (by decide) (by kernel_rfl)
              generalize vals 21 = v21 at *
              subst f21
              have f12 := hf 12 (by decide) (by kernel_rfl)
              generalize vals 12 = v12 at *
              subst f12
              clear hf
              go_wp2_with (fail)
              exact RQ.mk rfl ⟨(by first | rfl | (simp [FS27_6_32]; done) | (simp [FS27_6_32, *]; done) | (simp [FS27_6_32, gotV]; done) | (simp [FS27_6_32, gotV]; omega)), fun h => absurd h (by decide)⟩ (Below.refl _ _)
            | 23, _ =>
              injection ho with ho
              subst ho
              clear hl
              simp only [fillA, List.take, List.drop, put_none, Act.put, List.setIfInBounds_toArray, List.set_cons_zero, List.set_cons_succ, Nat.reduceAdd]
              have f12 := hf 12 (by decide) (by kernel_rfl)
              generalize vals 12 = v12 at *
              subst f12
              have f22 := hf 22 (by decide) (by kernel_rfl)
              generalize vals 22 = v22 at *
              subst f22
              have f9 := hf 9 (by decide) (by kernel_rfl)
              generalize vals 9 = v9 at *
              subst f9
              clear hf
              go_wp2_with (fail)
              exact RQ.mk rfl ⟨(by first | rfl | (simp [FS27_6_32]; done) | (simp [FS27_6_32, *]; done) | (simp [FS27_6_32, gotV]; done) | (simp [FS27_6_32, gotV]; omega)), fun h => absurd h (by decide)⟩ (Below.refl _ _)
            | 24, _ =>
              injection ho with ho
              subst ho
              clear hl
              simp only [fillA, List.take, List.drop, put_none, Act.put, List.setIfInBounds_toArray, List.set_cons_zero, List.set_cons_succ, Nat.reduceAdd]
              have f9 := hf 9 (by decide) (by kernel_rfl)
              generalize vals 9 = v9 at *
              subst f9
              have f23 := hf 23 (by decide) (by kernel_rfl)
              generalize vals 23 = v23 at *
              subst f23
              clear hf
              go_wp2_with (fail)
              exact RQ.mk rfl ⟨(by first | rfl | (simp [FS27_6_32]; done) | (simp [FS27_6_32, *]; done) | (simp [FS27_6_32, gotV]; done) | (simp [FS27_6_32, gotV]; omega)), fun h => absurd h (by decide)⟩ (Below.refl _ _)
            | m + 25, h => exact absurd h (by omega)
          · intro vals w1 hb1 hf hd
            simp only [fillA, List.take, List.drop, put_none, Act.put, List.setIfInBounds_toArray, List.set_cons_zero, List.set_cons_succ, Nat.reduceAdd]
            clear hd
            have f0 := hf 0 (by decide)
            generalize vals 0 = v0 at *
            subst f0
            have f1 := hf 1 (by decide)
            generalize vals 1 = v1 at *
            subst f1
            have f2 := hf 2 (by decide)
            generalize vals 2 = v2 at *
            subst f2
            have f3 := hf 3 (by decide)
            generalize vals 3 = v3 at *
            subst f3
            have f4 := hf 4 (by decide)
            generalize vals 4 = v4 at *
            subst f4
            have f5 := hf 5 (by decide)
            generalize vals 5 = v5 at *
            subst f5
            have f6 := hf 6 (by decide)
            generalize vals 6 = v6 at *
            subst f6
            have f7 := hf 7 (by decide)
            generalize vals 7 = v7 at *
            subst f7
            have f8 := hf 8 (by decide)
            generalize vals 8 = v8 at *
            subst f8
            have f9 := hf 9 (by decide)
            generalize vals 9 = v9 at *
            subst f9
            have f10 := hf 10 (by decide)
            generalize vals 10 = v10 at *
            subst f10
            have f11 := hf 11 (by decide)
            generalize vals 11 = v11 at *
            subst f11
            have f12 := hf 12 (by decide)
            generalize vals 12 = v12 at *
            subst f12
            have f13 := hf 13 (by decide)
            generalize vals 13 = v13 at *
            subst f13
            have f14 := hf 14 (by decide)
            generalize vals 14 = v14 at *
            subst f14
            have f15 := hf 15 (by decide)
            generalize vals 15 = v15 at *
            subst f15
            have f16 := hf 16 (by decide)
            generalize vals 16 = v16 at *
            subst f16
            have f17 := hf 17 (by decide)
            generalize vals 17 = v17 at *
            subst f17
            have f18 := hf 18 (by decide)
            generalize vals 18 = v18 at *
            subst f18
            have f19 := hf 19 (by decide)
            generalize vals 19 = v19 at *
            subst f19
            have f20 := hf 20 (by decide)
            generalize vals 20 = v20 at *
            subst f20
            have f21 := hf 21 (by decide)
            generalize vals 21 = v21 at *
            subst f21
            have f22 := hf 22 (by decide)
            generalize vals 22 = v22 at *
            subst f22
            have f23 := hf 23 (by decide)
            generalize vals 23 = v23 at *
            subst f23
            have f24 := hf 24 (by decide)
            generalize vals 24 = v24 at *
            subst f24
            clear hf
            have hc1 := cellOf hb1
            have hf1 := frozOf hb1
            have hz1 := sizeOf hb1
            try simp at hz1
            go_wp2_with (fail)
            go_ret
            exact ⟨ret_bool (by rw [HB.out (by rw [HV.out, HG.out, H2.out]; rfl)]), by (repeat' (first | exact Below.refl _ _ | assumption | refine Below.setCell ?_ ?_ _ | refine Below.drew ?_ | refine Below.alloc ?_ ?_ _ | refine Below.trans ?_ (Below.mono (by assumption) ?_) | (simp; done) | (simp; omega) | omega))⟩
        · have H2 := hid (show gapLe d y x = true by simp [gapLe]; omega)
          go_wp2_with (fail)
          refine wp_region_w (n := 25) [] [] (FS27_6_33 d A xs x y bx ox k xs.length pl.length cap capp w) rfl (by kernel_rfl) (fun _ _ d _ _ h => by cases d <;> exact h) ?_ ?_ ?_ ?_ ?_ ?_
          · intro iq
            match iq with
            | 0 | 1 | 2 | 3 | 4 | 5 | 6 | 7 | 8 | 9 | 10 | 11 | 12 | 13 | 14 | 15 | 16 | 17 | 18 | 19 | 20 | 21 | 22 | 23 | 24 => exact Stable.const _
            | n + 25 => exact Stable.const _
          · intro iq hi
            exact absurd hi (by simp)
          · intro iq hi
            exact absurd hi (by simp)
          · intro iq o hi hl ho vals w1 hb1 hf
            exact absurd hl (by simp)
          · intro iq o hi hl ho vals w1 hb1 hf
            match iq, hi with
            | 0, _ =>
              injection ho with ho
              subst ho
              clear hl
              simp only [fillA, List.take, List.drop, put_none, Act.put, List.setIfInBounds_toArray, List.set_cons_zero, List.set_cons_succ, Nat.reduceAdd]
              clear hf
              go_wp2_with (fail)
              exact RQ.mk rfl ⟨(by first | rfl | (simp [FS27_6_33]; done) | (simp [FS27_6_33, *]; done) | (simp [FS27_6_33, gotV]; done) | (simp [FS27_6_33, gotV]; omega)), fun h => absurd h (by decide)⟩ (Below.refl _ _)
            | 1, _ =>
              injection ho with ho
              subst ho
              clear hl
              simp only [fillA, List.take, List.drop, put_none, Act.put, List.setIfInBounds_toArray, List.set_cons_zero, List.set_cons_succ, Nat.reduceAdd]
              have f0 := hf 0 (by decide) (by kernel_rfl)
              generalize vals 0 = v0 at *
              subst f0
              clear hf
              have hc1 := cellOf hb1
              have hf1 := frozOf hb1
              have hz1 := sizeOf hb1
              try simp at hz1
              go_wp2_with (first | (go_at_call 57; refine (c_impl_isMinute _ _ ).mono ?_; rintro e w' ⟨rfl, hb⟩; have hc := cellOf hb; have hf := frozOf hb; have hz := sizeOf hb; try simp at hz))
              exact RQ.mk rfl ⟨(by first | rfl | (simp [FS27_6_33]; done) | (simp [FS27_6_33, *]; done) | (simp [FS27_6_33, gotV]; done) | (simp [FS27_6_33, gotV]; omega)), fun h => absurd h (by decide)⟩ (by (repeat' (first | exact Below.refl _ _ | assumption | refine Below.setCell ?_ ?_ _ | refine Below.drew ?_ | refine Below.alloc ?_ ?_ _ | refine Below.trans ?_ (Below.mono (by assumption) ?_) | (simp; done) | (simp; omega) | omega)))
            | 2, _ =>
              injection ho with ho
              subst ho
              clear hl
              simp only [fillA, List.take, List.drop, put_none, Act.put, List.setIfInBounds_toArray, List.set_cons_zero, List.set_cons_succ, Nat.reduceAdd]
              have f1 := hf 1 (by decide) (by kernel_rfl)
              generalize vals 1 = v1 at *
              subst f1
              clear hf
              go_wp2_with (fail)
              exact RQ.mk rfl ⟨(by first | rfl | (simp [FS27_6_33]; done) | (simp [FS27_6_33, *]; done) | (simp [FS27_6_33, gotV]; done) | (simp [FS27_6_33, gotV]; omega)), fun h => absurd h (by decide)⟩ (Below.refl _ _)
            | 3, _ =>
              injection ho with ho
              subst ho
              clear hl
              simp only [fillA, List.take, List.drop, put_none, Act.put, List.setIfInBounds_toArray, List.set_cons_zero, List.set_cons_succ, Nat.reduceAdd]
              have f2 := hf 2 (by decide) (by kernel_rfl)
              generalize vals 2 = v2 at *
              subst f2
              have f1 := hf 1 (by decide) (by kernel_rfl)
              generalize vals 1 = v1 at *
              subst f1
              clear hf
              go_wp2_with (fail)
              exact RQ.mk rfl ⟨(by first | rfl | (simp [FS27_6_33]; done) | (simp [FS27_6_33, *]; done) | (simp [FS27_6_33, gotV]; done) | (simp [FS27_6_33, gotV]; omega)), fun h => absurd h (by decide)⟩ (Below.refl _ _)
            | 4, _ =>
              injection ho with ho
              subst ho
              clear hl
              simp only [fillA, List.take, List.drop, put_none, Act.put, List.setIfInBounds_toArray, List.set_cons_zero, List.set_cons_succ, Nat.reduceAdd]
              have f3 := hf 3 (by decide) (by kernel_rfl)
              generalize vals 3 = v3 at *
              subst f3
              clear hf
              have hc1 := cellOf hb1
              have hf1 := frozOf hb1
              have hz1 := sizeOf hb1
              try simp at hz1
              go_wp2_with (fail)
              exact RQ.mk rfl ⟨(by first | rfl | (simp [FS27_6_33]; done) | (simp [FS27_6_33, *]; done) | (simp [FS27_6_33, gotV]; done) | (simp [FS27_6_33, gotV]; omega)), fun h => absurd h (by decide)⟩ (Below.refl _ _)
            | 5, _ =>
              injection ho with ho
              subst ho
              clear hl
              simp only [fillA, List.take, List.drop, put_none, Act.put, List.setIfInBounds_toArray, List.set_cons_zero, List.set_cons_succ, Nat.reduceAdd]
              have f3 := hf 3 (by decide) (by kernel_rfl)
              generalize vals 3 = v3 at *
              subst f3
              clear hf
              go_wp2_with (fail)
              exact RQ.mk rfl ⟨(by first | rfl | (simp [FS27_6_33]; done) | (simp [FS27_6_33, *]; done) | (simp [FS27_6_33, gotV]; done) | (simp [FS27_6_33, gotV]; omega)), fun h => absurd h (by decide)⟩ (Below.refl _ _)
            | 6, _ =>
              injection ho with ho
              subst ho
              clear hl
              simp only [fillA, List.take, List.drop, put_none, Act.put, List.setIfInBounds_toArray, List.set_cons_zero, List.set_cons_succ, Nat.reduceAdd]
              have f4 := hf 4 (by decide) (by kernel_rfl)
              generalize vals 4 = v4 at *
              subst f4
              have f5 := hf 5 (by decide) (by kernel_rfl)
              generalize vals 5 = v5 at *
              subst f5
              have f3 := hf 3 (by decide) (by kernel_rfl)
              generalize vals 3 = v3 at *
              subst f3
              clear hf
              have hc1 := cellOf hb1
              have hf1 := frozOf hb1
              have hz1 := sizeOf hb1
              try simp at hz1
              go_wp2_with (first | (go_at_call 58; refine (c_impl_mayOpen _ _ _ _ _ _ _ (by first | assumption | exact Rds.below hx (by (repeat' (first | exact Below.refl _ _ | assumption | refine Below.setCell ?_ ?_ _ | refine Below.drew ?_ | refine Below.alloc ?_ ?_ _ | refine Below.trans ?_ (Below.mono (by assumption) ?_) | (simp; done) | (simp; omega) | omega)))) rfl (by omega) hok (by omega) (by omega)).mono ?_; rintro e w' ⟨rfl, hb⟩; have hc := cellOf hb; have hf := frozOf hb; have hz := sizeOf hb; try simp at hz))
              exact RQ.mk rfl ⟨(by first | rfl | (simp [FS27_6_33]; done) | (simp [FS27_6_33, *]; done) | (simp [FS27_6_33, gotV]; done) | (simp [FS27_6_33, gotV]; omega)), fun h => absurd h (by decide)⟩ (by (repeat' (first | exact Below.refl _ _ | assumption | refine Below.setCell ?_ ?_ _ | refine Below.drew ?_ | refine Below.alloc ?_ ?_ _ | refine Below.trans ?_ (Below.mono (by assumption) ?_) | (simp; done) | (simp; omega) | omega)))
            | 7, _ =>
              injection ho with ho
              subst ho
              clear hl
              simp only [fillA, List.take, List.drop, put_none, Act.put, List.setIfInBounds_toArray, List.set_cons_zero, List.set_cons_succ, Nat.reduceAdd]
              have f6 := hf 6 (by decide) (by kernel_rfl)
              generalize vals 6 = v6 at *
              subst f6
              have f3 := hf 3 (by decide) (by kernel_rfl)
              generalize vals 3 = v3 at *
              subst f3
              clear hf
              go_wp2_with (fail)
              exact RQ.mk rfl ⟨(by first | rfl | (simp [FS27_6_33]; done) | (simp [FS27_6_33, *]; done) | (simp [FS27_6_33, gotV]; done) | (simp [FS27_6_33, gotV]; omega)), fun h => absurd h (by decide)⟩ (Below.refl _ _)
            | 8, _ =>
              injection ho with ho
              subst ho
              clear hl
              simp only [fillA, List.take, List.drop, put_none, Act.put, List.setIfInBounds_toArray, List.set_cons_zero, List.set_cons_succ, Nat.reduceAdd]
              have f3 := hf 3 (by decide) (by kernel_rfl)
              generalize vals 3 = v3 at *
              subst f3
              have f7 := hf 7 (by decide) (by kernel_rfl)
              generalize vals 7 = v7 at *
              subst f7
              clear hf
              go_wp2_with (fail)
              exact RQ.mk rfl ⟨(by first | rfl | (simp [FS27_6_33]; done) | (simp [FS27_6_33, *]; done) | (simp [FS27_6_33, gotV]; done) | (simp [FS27_6_33, gotV]; omega)), fun h => absurd h (by decide)⟩ (Below.refl _ _)
            | 9, _ =>
              injection ho with ho
              subst ho
              clear hl
              simp only [fillA, List.take, List.drop, put_none, Act.put, List.setIfInBounds_toArray, List.set_cons_zero, List.set_cons_succ, Nat.reduceAdd]
              have f8 := hf 8 (by decide) (by kernel_rfl)
              generalize vals 8 = v8 at *
              subst f8
              have f6 := hf 6 (by decide) (by kernel_rfl)
              generalize vals 6 = v6 at *
              subst f6
              clear hf
              go_wp2_with (fail)
              exact RQ.mk rfl ⟨(by first | rfl | (simp [FS27_6_33]; done) | (simp [FS27_6_33, *]; done) | (simp [FS27_6_33, gotV]; done) | (simp [FS27_6_33, gotV]; omega)), fun h => absurd h (by decide)⟩ (Below.refl _ _)
            | 10, _ =>
              injection ho with ho
              subst ho
              clear hl
              simp only [fillA, List.take, List.drop, put_none, Act.put, List.setIfInBounds_toArray, List.set_cons_zero, List.set_cons_succ, Nat.reduceAdd]
              have f9 := hf 9 (by decide) (by kernel_rfl)
              generalize vals 9 = v9 at *
              subst f9
              clear hf
              go_wp2_with (fail)
              exact RQ.mk rfl ⟨(by first | rfl | (simp [FS27_6_33]; done) | (simp [FS27_6_33, *]; done) | (simp [FS27_6_33, gotV]; done) | (simp [FS27_6_33, gotV]; omega)), fun h => absurd h (by decide)⟩ (Below.refl _ _)
            | 11, _ =>
              injection ho with ho
              subst ho
              clear hl
              simp only [fillA, List.take, List.drop, put_none, Act.put, List.setIfInBounds_toArray, List.set_cons_zero, List.set_cons_succ, Nat.reduceAdd]
              have f10 := hf 10 (by decide) (by kernel_rfl)
              generalize vals 10 = v10 at *
              subst f10
              have f9 := hf 9 (by decide) (by kernel_rfl)
              generalize vals 9 = v9 at *
              subst f9
              clear hf
              go_wp2_with (fail)
              exact RQ.mk rfl ⟨(by first | rfl | (simp [FS27_6_33]; done) | (simp [FS27_6_33, *]; done) | (simp [FS27_6_33, gotV]; done) | (simp [FS27_6_33, gotV]; omega)), fun h => absurd h (by decide)⟩ (Below.refl _ _)
            | 12, _ =>
              injection ho with ho
              subst ho
              clear hl
              simp only [fillA, List.take, List.drop, put_none, Act.put, List.setIfInBounds_toArray, List.set_cons_zero, List.set_cons_succ, Nat.reduceAdd]
              have f11 := hf 11 (by decide) (by kernel_rfl)
              generalize vals 11 = v11 at *
              subst f11
              have f9 := hf 9 (by decide) (by kernel_rfl)
              generalize vals 9 = v9 at *
              subst f9
              clear hf
              go_wp2_with (fail)
              exact RQ.mk rfl ⟨(by first | rfl | (simp [FS27_6_33]; done) | (simp [FS27_6_33, *]; done) | (simp [FS27_6_33, gotV]; done) | (simp [FS27_6_33, gotV]; omega)), fun h => absurd h (by decide)⟩ (Below.refl _ _)
            | 13, _ =>
              injection ho with ho
              subst ho
              clear hl
              simp only [fillA, List.take, List.drop, put_none, Act.put, List.setIfInBounds_toArray, List.set_cons_zero, List.set_cons_succ, Nat.reduceAdd]
              have f12 := hf 12 (by decide) (by kernel_rfl)
              generalize vals 12 = v12 at *
              subst f12
              clear hf
              go_wp2_with (fail)
              exact RQ.mk rfl ⟨(by first | rfl | (simp [FS27_6_33]; done) | (simp [FS27_6_33, *]; done) | (simp [FS27_6_33, gotV]; done) | (simp [FS27_6_33, gotV]; omega)), fun h => absurd h (by decide)⟩ (Below.refl _ _)
            | 14, _ =>
              injection ho with ho
              subst ho
              clear hl
              simp only [fillA, List.take, List.drop, put_none, Act.put, List.setIfInBounds_toArray, List.set_cons_zero, List.set_cons_succ, Nat.reduceAdd]
              have f12 := hf 12 (by decide) (by kernel_rfl)
              generalize vals 12 = v12 at *
              subst f12
              clear hf
              go_wp2_with (fail)
              exact RQ.mk rfl ⟨(by first | rfl | (simp [FS27_6_33]; done) | (simp [FS27_6_33, *]; done) | (simp [FS27_6_33, gotV]; done) | (simp [FS27_6_33, gotV]; omega)), fun h => absurd h (by decide)⟩ (Below.refl _ _)
            | 15, _ =>
              injection ho with ho
              subst ho
              clear hl
              simp only [fillA, List.take, List.drop, put_none, Act.put, List.setIfInBounds_toArray, List.set_cons_zero, List.set_cons_succ, Nat.reduceAdd]
              have f12 := hf 12 (by decide) (by kernel_rfl)
              generalize vals 12 = v12 at *
              subst f12
              clear hf
              go_wp2_with (fail)
              exact RQ.mk rfl ⟨(by first | rfl | (simp [FS27_6_33]; done) | (simp [FS27_6_33, *]; done) | (simp [FS27_6_33, gotV]; done) | (simp [FS27_6_33, gotV]; omega)), fun h => absurd h (by decide)⟩ (Below.refl _ _)
            | 16, _ =>
              injection ho with ho
              subst ho
              clear hl
              simp only [fillA, List.take, List.drop, put_none, Act.put, List.setIfInBounds_toArray, List.set_cons_zero, List.set_cons_succ, Nat.reduceAdd]
              have f15 := hf 15 (by decide) (by kernel_rfl)
              generalize vals 15 = v15 at *
              subst f15
              have f12 := hf 12 (by decide) (by kernel_rfl)
              generalize vals 12 = v12 at *
              subst f12
              clear hf
              go_wp2_with (fail)
              exact RQ.mk rfl ⟨(by first | rfl | (simp [FS27_6_33]; done) | (simp [FS27_6_33, *]; done) | (simp [FS27_6_33, gotV]; done) | (simp [FS27_6_33, gotV]; omega)), fun h => absurd h (by decide)⟩ (Below.refl _ _)
            | 17, _ =>
              injection ho with ho
              subst ho
              clear hl
              simp only [fillA, List.take, List.drop, put_none, Act.put, List.setIfInBounds_toArray, List.set_cons_zero, List.set_cons_succ, Nat.reduceAdd]
              have f14 := hf 14 (by decide) (by kernel_rfl)
              generalize vals 14 = v14 at *
              subst f14
              have f16 := hf 16 (by decide) (by kernel_rfl)
              generalize vals 16 = v16 at *
              subst f16
              have f12 := hf 12 (by decide) (by kernel_rfl)
              generalize vals 12 = v12 at *
              subst f12
              clear hf
              go_wp2_with (fail)
              exact RQ.mk rfl ⟨(by first | rfl | (simp [FS27_6_33]; done) | (simp [FS27_6_33, *]; done) | (simp [FS27_6_33, gotV]; done) | (simp [FS27_6_33, gotV]; omega)), fun h => absurd h (by decide)⟩ (Below.refl _ _)
            | 18, _ =>
              injection ho with ho
              subst ho
              clear hl
              simp only [fillA, List.take, List.drop, put_none, Act.put, List.setIfInBounds_toArray, List.set_cons_zero, List.set_cons_succ, Nat.reduceAdd]
              have f17 := hf 17 (by decide) (by kernel_rfl)
              generalize vals 17 = v17 at *
              subst f17
              have f12 := hf 12 (by decide) (by kernel_rfl)
              generalize vals 12 = v12 at *
              subst f12
              clear hf
              have hc1 := cellOf hb1
              have hf1 := frozOf hb1
              have hz1 := sizeOf hb1
              try simp at hz1
              go_wp2_with (fail)
              exact RQ.mk rfl ⟨(by first | rfl | (simp [FS27_6_33]; done) | (simp [FS27_6_33, *]; done) | (simp [FS27_6_33, gotV]; done) | (simp [FS27_6_33, gotV]; omega)), fun h => absurd h (by decide)⟩ (Below.refl _ _)
            | 19, _ =>
              injection ho with ho
              subst ho
              clear hl
              simp only [fillA, List.take, List.drop, put_none, Act.put, List.setIfInBounds_toArray, List.set_cons_zero, List.set_cons_succ, Nat.reduceAdd]
              have f13 := hf 13 (by decide) (by kernel_rfl)
              generalize vals 13 = v13 at *
              subst f13
              have f18 := hf 18 (by decide) (by kernel_rfl)
              generalize vals 18 = v18 at *
              subst f18
              have f12 := hf 12 (by decide) (by kernel_rfl)
              generalize vals 12 = v12 at *
              subst f12
              clear hf
              go_wp2_with (fail)
              exact RQ.mk rfl ⟨(by first | rfl | (simp [FS27_6_33]; done) | (simp [FS27_6_33, *]; done) | (simp [FS27_6_33, gotV]; done) | (simp [FS27_6_33, gotV]; omega)), fun h => absurd h (by decide)⟩ (Below.refl _ _)
            | 20, _ =>
              injection ho with ho
              subst ho
              clear hl
              simp only [fillA, List.take, List.drop, put_none, Act.put, List.setIfInBounds_toArray, List.set_cons_zero, List.set_cons_succ, Nat.reduceAdd]
              have f12 := hf 12 (by decide) (by kernel_rfl)
              generalize vals 12 = v12 at *
              subst f12
              clear hf
              go_wp2_with (fail)
              exact RQ.mk rfl ⟨(by first | rfl | (simp [FS27_6_33]; done) | (simp [FS27_6_33, *]; done) | (simp [FS27_6_33, gotV]; done) | (simp [FS27_6_33, gotV]; omega)), fun h => absurd h (by decide)⟩ (Below.refl _ _)
            | 21, _ =>
              injection ho with ho
              subst ho
              clear hl
              simp only [fillA, List.take, List.drop, put_none, Act.put, List.setIfInBounds_toArray, List.set_cons_zero, List.set_cons_succ, Nat.reduceAdd]
              have f20 := hf 20 (by decide) (by kernel_rfl)
              generalize vals 20 = v20 at *
              subst f20
              have f12 := hf 12 (by decide) (by kernel_rfl)
              generalize vals 12 = v12 at *
              subst f12
              clear hf
              have hc1 := cellOf hb1
              have hf1 := frozOf hb1
              have hz1 := sizeOf hb1
              try simp at hz1
              go_wp2_with (fail)
              exact RQ.mk rfl ⟨(by first | rfl | (simp [FS27_6_33]; done) | (simp [FS27_6_33, *]; done) | (simp [FS27_6_33, gotV]; done) | (simp [FS27_6_33, gotV]; omega)), fun h => absurd h (by decide)⟩ (Below.refl _ _)
            | 22, _ =>
              injection ho with ho
              subst ho
              clear hl
              simp only [fillA, List.take, List.drop, put_none, Act.put, List.setIfInBounds_toArray, List.set_cons_zero, List.set_cons_succ, Nat.reduceAdd]
              have f19 := hf 19 (by decide) (by kernel_rfl)
              generalize vals 19 = v19 at *
              subst f19
              have f21 := hf 21 (by decide) (by kernel_rfl)
              generalize vals 21 = v21 at *
              subst f21
              have f12 := hf 12 (by decide) (by kernel_rfl)
              generalize vals 12 = v12 at *
              subst f12
              clear hf
              go_wp2_with (fail)
              exact RQ.mk rfl ⟨(by first | rfl | (simp [FS27_6_33]; done) | (simp [FS27_6_33, *]; done) | (simp [FS27_6_33, gotV]; done) | (simp [FS27_6_33, gotV]; omega)), fun h => absurd h (by decide)⟩ (Below.refl _ _)
            | 23, _ =>
              injection ho with ho
              subst ho
              clear hl
              simp only [fillA, List.take, List.drop, put_none, Act.put, List.setIfInBounds_toArray, List.set_cons_zero, List.set_cons_succ, Nat.reduceAdd]
              have f12 := hf 12 (by decide) (by kernel_rfl)
              generalize vals 12 = v12 at *
              subst f12
              have f22 := hf 22 (by decide) (by kernel_rfl)
              generalize vals 22 = v22 at *
              subst f22
              have f9 := hf 9 (by decide) (by kernel_rfl)
              generalize vals 9 = v9 at *
              subst f9
              clear hf
              go_wp2_with (fail)
              exact RQ.mk rfl ⟨(by first | rfl | (simp [FS27_6_33]; done) | (simp [FS27_6_33, *]; done) | (simp [FS27_6_33, gotV]; done) | (simp [FS27_6_33, gotV]; omega)), fun h => absurd h (by decide)⟩ (Below.refl _ _)
            | 24, _ =>
              injection ho with ho
              subst ho
              clear hl
              simp only [fillA, List.take, List.drop, put_none, Act.put, List.setIfInBounds_toArray, List.set_cons_zero, List.set_cons_succ, Nat.reduceAdd]
              have f9 := hf 9 (by decide) (by kernel_rfl)
              generalize vals 9 = v9 at *
              subst f9
              have f23 := hf 23 (by decide) (by kernel_rfl)
              generalize vals 23 = v23 at *
              subst f23
              clear hf
              go_wp2_with (fail)
              exact RQ.mk rfl ⟨(by first | rfl | (simp [FS27_6_33]; done) | (simp [FS27_6_33, *]; done) | (simp [FS27_6_33, gotV]; done) | (simp [FS27_6_33, gotV]; omega)), fun h => absurd h (by decide)⟩ (Below.refl _ _)
            | m + 25, h => exact absurd h (by omega)
          · intro vals w1 hb1 hf hd
            simp only [fillA, List.take, List.drop, put_none, Act.put, List.setIfInBounds_toArray, List.set_cons_zero, List.set_cons_succ, Nat.reduceAdd]
            clear hd
            have f0 := hf 0 (by decide)
            generalize vals 0 = v0 at *
            subst f0
            have f1 := hf 1 (by decide)
            generalize vals 1 = v1 at *
            subst f1
            have f2 := hf 2 (by decide)
            generalize vals 2 = v2 at *
            subst f2
            have f3 := hf 3 (by decide)
            generalize vals 3 = v3 at *
            subst f3
            have f4 := hf 4 (by decide)
            generalize vals 4 = v4 at *
            subst f4
            have f5 := hf 5 (by decide)
            generalize vals 5 = v5 at *
            subst f5
            have f6 := hf 6 (by decide)
            generalize vals 6 = v6 at *
            subst f6
            have f7 := hf 7 (by decide)
            generalize vals 7 = v7 at *
            subst f7
            have f8 := hf 8 (by decide)
            generalize vals 8 = v8 at *
            subst f8
            have f9 := hf 9 (by decide)
            generalize vals 9 = v9 at *
            subst f9
            have f10 := hf 10 (by decide)
            generalize vals 10 = v10 at *
            subst f10
            have f11 := hf 11 (by decide)
            generalize vals 11 = v11 at *
            subst f11
            have f12 := hf 12 (by decide)
            generalize vals 12 = v12 at *
            subst f12
            have f13 := hf 13 (by decide)
            generalize vals 13 = v13 at *
            subst f13
            have f14 := hf 14 (by decide)
            generalize vals 14 = v14 at *
            subst f14
            have f15 := hf 15 (by decide)
            generalize vals 15 = v15 at *
            subst f15
            have f16 := hf 16 (by decide)
            generalize vals 16 = v16 at *
            subst f16
            have f17 := hf 17 (by decide)
            generalize vals 17 = v17 at *
            subst f17
            have f18 := hf 18 (by decide)
            generalize vals 18 = v18 at *
            subst f18
            have f19 := hf 19 (by decide)
            generalize vals 19 = v19 at *
            subst f19
            have f20 := hf 20 (by decide)
            generalize vals 20 = v20 at *
            subst f20
            have f21 := hf 21 (by decide)
            generalize vals 21 = v21 at *
            subst f21
            have f22 := hf 22 (by decide)
            generalize vals 22 = v22 at *
            subst f22
            have f23 := hf 23 (by decide)
            generalize vals 23 = v23 at *
            subst f23
            have f24 := hf 24 (by decide)
            generalize vals 24 = v24 at *
            subst f24
            clear hf
            have hc1 := cellOf hb1
            have hf1 := frozOf hb1
            have hz1 := sizeOf hb1
            try simp at hz1
            go_wp2_with (fail)
            go_roundw
            case rel =>
              refine ⟨k + 2, by omega, by go_num, fun j hj => ?_, ?_, ?_, ?_, ?_, by (repeat' (first | exact Below.refl _ _ | assumption | refine Below.setCell ?_ ?_ _ | refine Below.drew ?_ | refine Below.alloc ?_ ?_ _ | refine Below.trans ?_ (Below.mono (by assumption) ?_) | (simp; done) | (simp; omega) | omega))⟩
              · rcases Nat.lt_or_ge j (k + 1) with h | h
                · exact HL.out j h
                · obtain rfl : j = k + 1 := by omega
                  rw [HV.out, HG.out, H2.out]; rfl
              all_goals first | (simp [go_sem, ↓IntWalk.iteOmega, *]; done) | (simp [go_sem, ↓IntWalk.iteOmega, *]; omega) | omega
            case measure => simp [intOf]; omega
    · obtain rfl : k = pl.length := by omega
      have hops := opsB_all hl
      have hpm := opsB_P hdb.1 hops
      have HV := hid (show planB d xs rs p pl = !((waitsL rs pl).any (outP p)) by rw [planB_eq hs0 hops, serv_any, waitsL_eq hdb.1 hops hrm])
      have hwl : (waitsL rs pl).length = rs.length := by simp [waitsL]
      have HWL := hid hwl
      have hwl2 : (waitsL rs pl).length ≤ 8 := by omega
      clear hl hwl
      go_wp2_with (first | (go_at_call 65; refine (c_impl_waits _ _ rs pl _ _ _ (by first | assumption | exact Rds.below hr (by (repeat' (first | exact Below.refl _ _ | assumption | refine Below.setCell ?_ ?_ _ | refine Below.drew ?_ | refine Below.alloc ?_ ?_ _ | refine Below.trans ?_ (Below.mono (by assumption) ?_) | (simp; done) | (simp; omega) | omega)))) (by first | assumption | exact Rds.below hq (by (repeat' (first | exact Below.refl _ _ | assumption | refine Below.setCell ?_ ?_ _ | refine Below.drew ?_ | refine Below.alloc ?_ ?_ _ | refine Below.trans ?_ (Below.mono (by assumption) ?_) | (simp; done) | (simp; omega) | omega)))) (by omega) (by omega) hrm hpm).mono ?_; rintro e w' ⟨A9, cp9, rfl, hF9, hb⟩; have hr9 := hF9.rds; clear hF9; have hc := cellOf hb; have hf := frozOf hb; have hz := sizeOf hb; try simp at hz) | (go_at_call 64; refine (c_has_out _ (waitsL rs pl) _ p (w.heap.size + 1) _ (by first | assumption | exact Rds.below hr9 (by (repeat' (first | exact Below.refl _ _ | assumption | refine Below.setCell ?_ ?_ _ | refine Below.drew ?_ | refine Below.alloc ?_ ?_ _ | refine Below.trans ?_ (Below.mono (by assumption) ?_) | (simp; done) | (simp; omega) | omega)))) (by omega) (by first | assumption | (simp [go_sem, ↓IntWalk.iteOmega, *]; done)) (by first | omega | (simp; done) | (simp; omega))).mono ?_; rintro e w' ⟨rfl, hb⟩; have hc := cellOf hb; have hf := frozOf hb; have hz := sizeOf hb; try simp at hz))
      all_goals go_ret
      all_goals exact ⟨ret_bool (by rw [HV.out]), by (repeat' (first | exact Below.refl _ _ | assumption | refine Below.setCell ?_ ?_ _ | refine Below.drew ?_ | refine Below.alloc ?_ ?_ _ | refine Below.trans ?_ (Below.mono (by assumption) ?_) | (simp; done) | (simp; omega) | omega))⟩

end Go.Proofs.Yteciijnpfapmhaa
