import Derived.Test.YteciijnpfapmhaaQB10
import Derived.Test.YteciijnpfapmhaaQB08
import Derived.Test.YteciijnpfapmhaaQB03
namespace Go.Proofs.Yteciijnpfapmhaa
set_option linter.unusedSimpArgs false
set_option linter.unusedVariables false
open Go.RowKit

set_option maxHeartbeats 400000 in
theorem c_impl_IsBridgePlan_1 (n p : Int) (bp : Nat) (w : World) (hbp0 : w.cell? ⟨bp, 0, none⟩ = some (.int .i64 (p))) (hlbp : bp < w.heap.size) :
  Calls Try.prog 66 #[.int .i64 (n), .pointer (some ⟨bp, 0, none⟩)] w fun e w' => e = .returned (.bool (!inB n 0 p)) ∧ Below w.heap.size w w' := by
 go_enter Try.func66, Try.ntmps66
 go_wp2_with (first | (go_at_call 53; refine (c_impl_inside _ _ _ _ ).mono ?_; rintro e w' ⟨rfl, hb⟩; have hc := cellOf hb; have hf := frozOf hb; have hz := sizeOf hb; try simp at hz))
 all_goals go_ret
 all_goals
  refine ⟨ret_bool ?_, ?_⟩
  ·first | rfl | omega | (simp []; done) | (simp []; omega) | (simp []; (repeat' split) <;> (first | omega | (simp; done) | (simp; omega))) | (simp_all []; done) | (simp_all []; omega)
  ·(repeat' (first | exact Below.refl _ _ | assumption | refine Below.setCell ?_ ?_ _ | refine Below.drew ?_ | refine Below.alloc ?_ ?_ _ | refine Below.trans ?_ (Below.mono (by assumption) ?_) | (simp; done) | (simp; omega) | omega))

set_option maxHeartbeats 2000000 in
theorem c_idx_out (A : Option Addr) (xs : List (Int)) (cap : Nat) (p : Int) (bp : Nat) (w : World) (h0 : Rds cIn 1 w A xs) (hn : xs.length ≤ 9223372036854775807) (hbp0 : w.cell? ⟨bp, 0, none⟩ = some (.int .i64 (p))) (hlbp : bp < w.heap.size) :
  Calls Try.prog 88 #[.slice A xs.length cap, .func (.func 66) #[] #[.pointer (some ⟨bp, 0, none⟩)]] w fun e w' => e = .returned (.int .i64 (idxF (outP p) xs)) ∧ Below w.heap.size w w' := by
 go_enter Try.func88, Try.ntmps88
 go_wp2_with (fail)
 go_loopw [5, 8] (fun _ i wr => ∃ k : Nat, k ≤ xs.length ∧ i = .int .i64 k ∧ (xs.take k).any (outP p) = false ∧ Below w.heap.size w wr) (fun _ i _ => xs.length - (intOf i).toNat)
 case atStart => exact ⟨0, Nat.zero_le _, rfl, rfl, Below.refl _ _⟩
 case round =>
  obtain ⟨k, hk, rfl, hl, hbr⟩ := hrel
  have HT := hid hl
  clear hl
  by_cases hlt : k < xs.length
  ·obtain ⟨bx, ox, rfl, hbx, hcx⟩ := h0 k xs[k] (List.getElem?_eq_getElem hlt)
   have hx0 := hcx 0 _ rfl
   simp only [Nat.add_zero, Nat.mul_one] at hx0
   clear hcx h0
   skip
   have HS := hid (any_snoc (outP p) xs k hlt)
   have HH := hid (fun hp => idxF_hit (p := (outP p)) (xs := xs) HT.out hlt hp)
   obtain ⟨x, hxk⟩ : ∃ x, x = xs[k] := ⟨_, rfl⟩
   simp only [← hxk] at hx0 HS HH
   clear hxk
   have hc := cellOf hbr
   have hf := frozOf hbr
   have hz := sizeOf hbr
   have mbp0 : wr.cell? ⟨bp, 0, none⟩ = some (.int .i64 (p)) := by rw [hc, if_pos hlbp]; exact hbp0
   have mlbp : bp < wr.heap.size := by omega
   by_cases hp : (outP p) x = true
   ·have HP := hid hp
    have hp' := hp
    simp only [outP, Bool.not_eq_true', Bool.not_eq_false'] at hp'
    clear hp
    go_wp2_with (go_at_call 66; refine (c_impl_IsBridgePlan_1 _ p bp _ mbp0 mlbp).mono ?_; rintro e w2 ⟨rfl, hb2⟩)
    go_ret
    exact ⟨ret_int (HH.out HP.out).symm, by (repeat' (first | exact Below.refl _ _ | assumption | refine Below.setCell ?_ ?_ _ | refine Below.drew ?_ | refine Below.alloc ?_ ?_ _ | refine Below.trans ?_ (Below.mono (by assumption) ?_) | (simp; done) | (simp; omega) | omega))⟩
   ·have HP : Hid ((outP p) x = false) := by show _ = _; simpa using hp
    have hp' := HP.out
    simp only [outP, Bool.not_eq_true', Bool.not_eq_false'] at hp'
    clear hp
    go_wp2_with (go_at_call 66; refine (c_impl_IsBridgePlan_1 _ p bp _ mbp0 mlbp).mono ?_; rintro e w2 ⟨rfl, hb2⟩)
    go_roundw
    case rel => exact ⟨k + 1, by omega, by go_num, by rw [HS.out, HT.out, HP.out]; rfl, by (repeat' (first | exact Below.refl _ _ | assumption | refine Below.setCell ?_ ?_ _ | refine Below.drew ?_ | refine Below.alloc ?_ ?_ _ | refine Below.trans ?_ (Below.mono (by assumption) ?_) | (simp; done) | (simp; omega) | omega))⟩
    case measure => simp [intOf]; omega
  ·obtain rfl : k = xs.length := by omega
   have HN := hid (idxF_none (p := (outP p)) (xs := xs) (by have := HT.out; rwa [List.take_length] at this))
   go_wp2_with (fail)
   go_ret
   exact ⟨ret_int HN.out.symm, by (repeat' (first | exact Below.refl _ _ | assumption | refine Below.setCell ?_ ?_ _ | refine Below.drew ?_ | refine Below.alloc ?_ ?_ _ | refine Below.trans ?_ (Below.mono (by assumption) ?_) | (simp; done) | (simp; omega) | omega))⟩

set_option maxHeartbeats 2000000 in
theorem c_has_out (A : Option Addr) (xs : List (Int)) (cap : Nat) (p : Int) (bp : Nat) (w : World) (h0 : Rds cIn 1 w A xs) (hn : xs.length ≤ 9223372036854775807) (hbp0 : w.cell? ⟨bp, 0, none⟩ = some (.int .i64 (p))) (hlbp : bp < w.heap.size) :
  Calls Try.prog 64 #[.slice A xs.length cap, .func (.func 66) #[] #[.pointer (some ⟨bp, 0, none⟩)]] w fun e w' => e = .returned (.bool (xs.any (outP p))) ∧ Below w.heap.size w w' := by
 go_enter Try.func64, Try.ntmps64
 go_wp2_with (go_at_call 88; refine (c_idx_out _ _ _ _ _ _ (by assumption) (by assumption) (by assumption) (by assumption)).mono ?_; rintro e w' ⟨rfl, hb⟩)
 all_goals go_ret
 all_goals exact ⟨ret_bool (by rw [← idxF_any]; simp), by (repeat' (first | exact Below.refl _ _ | assumption | refine Below.setCell ?_ ?_ _ | refine Below.drew ?_ | refine Below.alloc ?_ ?_ _ | refine Below.trans ?_ (Below.mono (by assumption) ?_) | (simp; done) | (simp; omega) | omega))⟩

def FS27_6 (d : Int) (A : Option Addr) (xs : List (Int × Int)) (x y : Int) (bx ox k n0 n1 cap capp : Nat) (w W0 : World) (iq : Nat) (v : Value) (w1 : World) : Prop := match iq with
 | 0 => v = .int .i64 (x)
 | 1 => v = .bool (false)
 | 2 => v = .bool (true)
 | 3 => v = .bool (true)
 | 4 => v = undef
 | 5 => v = undef
 | 6 => v = undef
 | 7 => v = undef
 | 8 => v = .bool (true)
 | 9 => v = .bool (true)
 | 10 => v = undef
 | 11 => v = undef
 | 12 => v = undef
 | 13 => v = undef
 | 14 => v = undef
 | 15 => v = undef
 | 16 => v = undef
 | 17 => v = undef
 | 18 => v = undef
 | 19 => v = undef
 | 20 => v = undef
 | 21 => v = undef
 | 22 => v = undef
 | 23 => v = undef
 | 24 => v = .bool (true)
 | _ => True

def FS27_6_28 (d : Int) (A : Option Addr) (xs : List (Int × Int)) (x y : Int) (bx ox k n0 n1 cap capp : Nat) (w W0 : World) (iq : Nat) (v : Value) (w1 : World) : Prop := match iq with
 | 0 => v = .int .i64 (x)
 | 1 => v = .bool (true)
 | 2 => v = .bool (false)
 | 3 => v = .bool (false)
 | 4 => v = .agg #[.int .i64 (d), .slice A n0 cap]
 | 5 => v = .int .i64 (x)
 | 6 => v = .bool (true)
 | 7 => v = .bool (false)
 | 8 => v = .bool (false)
 | 9 => v = .bool (false)
 | 10 => v = .int .i64 (0)
 | 11 => v = .bool (false)
 | 12 => v = .bool (false)
 | 13 => v = undef
 | 14 => v = undef
 | 15 => v = undef
 | 16 => v = undef
 | 17 => v = undef
 | 18 => v = undef
 | 19 => v = undef
 | 20 => v = undef
 | 21 => v = undef
 | 22 => v = undef
 | 23 => v = .bool (false)
 | 24 => v = .bool (false)
 | _ => True

def FS27_6_29 (d : Int) (A : Option Addr) (xs : List (Int × Int)) (x y : Int) (bx ox k n0 n1 cap capp : Nat) (w W0 : World) (iq : Nat) (v : Value) (w1 : World) : Prop := match iq with
 | 0 => v = .int .i64 (x)
 | 1 => v = .bool (true)
 | 2 => v = .bool (false)
 | 3 => v = .bool (false)
 | 4 => v = .agg #[.int .i64 (d), .slice A n0 cap]
 | 5 => v = .int .i64 (x)
 | 6 => v = .bool (false)
 | 7 => v = .bool (true)
 | 8 => v = .bool (true)
 | 9 => v = .bool (true)
 | 10 => v = undef
 | 11 => v = undef
 | 12 => v = undef
 | 13 => v = undef
 | 14 => v = undef
 | 15 => v = undef
 | 16 => v = undef
 | 17 => v = undef
 | 18 => v = undef
 | 19 => v = undef
 | 20 => v = undef
 | 21 => v = undef
 | 22 => v = undef
 | 23 => v = undef
 | 24 => v = .bool (true)
 | _ => True

def FS27_6_30 (d : Int) (A : Option Addr) (xs : List (Int × Int)) (x y : Int) (bx ox k n0 n1 cap capp : Nat) (w W0 : World) (iq : Nat) (v : Value) (w1 : World) : Prop := match iq with
 | 0 => v = .int .i64 (x)
 | 1 => v = .bool (false)
 | 2 => v = .bool (true)
 | 3 => v = .bool (true)
 | 4 => v = undef
 | 5 => v = undef
 | 6 => v = undef
 | 7 => v = undef
 | 8 => v = .bool (true)
 | 9 => v = .bool (true)
 | 10 => v = undef
 | 11 => v = undef
 | 12 => v = undef
 | 13 => v = undef
 | 14 => v = undef
 | 15 => v = undef
 | 16 => v = undef
 | 17 => v = undef
 | 18 => v = undef
 | 19 => v = undef
 | 20 => v = undef
 | 21 => v = undef
 | 22 => v = undef
 | 23 => v = undef
 | 24 => v = .bool (true)
 | _ => True

def FS27_6_31 (d : Int) (A : Option Addr) (xs : List (Int × Int)) (x y : Int) (bx ox k n0 n1 cap capp : Nat) (w W0 : World) (iq : Nat) (v : Value) (w1 : World) : Prop := match iq with
 | 0 => v = .int .i64 (x)
 | 1 => v = .bool (true)
 | 2 => v = .bool (false)
 | 3 => v = .bool (false)
 | 4 => v = .agg #[.int .i64 (d), .slice A n0 cap]
 | 5 => v = .int .i64 (x)
 | 6 => v = .bool (false)
 | 7 => v = .bool (true)
 | 8 => v = .bool (true)
 | 9 => v = .bool (true)
 | 10 => v = undef
 | 11 => v = undef
 | 12 => v = undef
 | 13 => v = undef
 | 14 => v = undef
 | 15 => v = undef
 | 16 => v = undef
 | 17 => v = undef
 | 18 => v = undef
 | 19 => v = undef
 | 20 => v = undef
 | 21 => v = undef
 | 22 => v = undef
 | 23 => v = undef
 | 24 => v = .bool (true)
 | _ => True

def FS27_6_32 (d : Int) (A : Option Addr) (xs : List (Int × Int)) (x y : Int) (bx ox k n0 n1 cap capp : Nat) (w W0 : World) (iq : Nat) (v : Value) (w1 : World) : Prop := match iq with
 | 0 => v = .int .i64 (x)
 | 1 => v = .bool (true)
 | 2 => v = .bool (false)
 | 3 => v = .bool (false)
 | 4 => v = .agg #[.int .i64 (d), .slice A n0 cap]
 | 5 => v = .int .i64 (x)
 | 6 => v = .bool (true)
 | 7 => v = .bool (false)
 | 8 => v = .bool (false)
 | 9 => v = .bool (false)
 | 10 => v = .int .i64 (k + 1)
 | 11 => v = .bool (true)
 | 12 => v = .bool (true)
 | 13 => v = .int .i64 (x)
 | 14 => v = .slice (some ⟨bx, ox, none⟩) n1 capp
 | 15 => v = .int .i64 (k + 1)
 | 16 => v = .int .i64 (k)
 | 17 => v = .pointer (some ⟨bx, ox + k, none⟩)
 | 18 => v = .int .i64 (y)
 | 19 => v = .int .i64 (x - y)
 | 20 => v = .pointer (some ⟨w.heap.size, 0, none⟩)
 | 21 => v = .int .i64 (d)
 | 22 => v = .bool (true)
 | 23 => v = .bool (true)
 | 24 => v = .bool (true)
 | _ => True

def FS27_6_33 (d : Int) (A : Option Addr) (xs : List (Int × Int)) (x y : Int) (bx ox k n0 n1 cap capp : Nat) (w W0 : World) (iq : Nat) (v : Value) (w1 : World) : Prop := match iq with
 | 0 => v = .int .i64 (x)
 | 1 => v = .bool (true)
 | 2 => v = .bool (false)
 | 3 => v = .bool (false)
 | 4 => v = .agg #[.int .i64 (d), .slice A n0 cap]
 | 5 => v = .int .i64 (x)
 | 6 => v = .bool (true)
 | 7 => v = .bool (false)
 | 8 => v = .bool (false)
 | 9 => v = .bool (false)
 | 10 => v = .int .i64 (k + 1)
 | 11 => v = .bool (true)
 | 12 => v = .bool (true)
 | 13 => v = .int .i64 (x)
 | 14 => v = .slice (some ⟨bx, ox, none⟩) n1 capp
 | 15 => v = .int .i64 (k + 1)
 | 16 => v = .int .i64 (k)
 | 17 => v = .pointer (some ⟨bx, ox + k, none⟩)
 | 18 => v = .int .i64 (y)
 | 19 => v = .int .i64 (x - y)
 | 20 => v = .pointer (some ⟨w.heap.size, 0, none⟩)
 | 21 => v = .int .i64 (d)
 | 22 => v = .bool (false)
 | 23 => v = .bool (false)
 | 24 => v = .bool (false)
 | _ => True

set_option maxRecDepth 100000 in
set_option maxHeartbeats 8000000 in
theorem c_impl_IsBridgePlan (d : Int) (A : Option Addr) (xs : List (Int × Int)) (cap : Nat) (B : Option Addr) (rs : List Int) (capr : Nat) (p : Int) (C : Option Addr) (pl : List Int) (capp : Nat) (w : World) (hx : Rds cIv 2 w A xs) (hn : xs.length ≤ 9223372036854775807) (hr : Rds cIn 1 w B rs) (hnr : rs.length ≤ 9223372036854775807) (hq : Rds cIn 1 w C pl) (hnp : pl.length ≤ 9223372036854775807) :
  Calls Try.prog 27 #[.agg #[.int .i64 d, .slice A xs.length cap], .slice B rs.length capr, .int .i64 p, .slice C pl.length capp] w fun e w' => e = .returned (.bool (planB d xs rs p pl)) ∧ Below w.heap.size w w' := by
 by_cases hs0 : reqB d xs rs p = true
 rotate_left
 ·have hn0 : reqB d xs rs p = false := Bool.eq_false_iff.2 hs0
  have HV := hid (planB_no1 (pl := pl) hn0)
  clear hs0
  go_enter Try.func27, Try.ntmps27
  go_wp2_with (first | (go_at_call 63; refine (c_impl_areRequests _ _ _ _ _ _ _ _ _ (by first | assumption | exact Rds.below hx (by (repeat' (first | exact Below.refl _ _ | assumption | refine Below.setCell ?_ ?_ _ | refine Below.drew ?_ | refine Below.alloc ?_ ?_ _ | refine Below.trans ?_ (Below.mono (by assumption) ?_) | (simp; done) | (simp; omega) | omega)))) (by omega) (by first | assumption | exact Rds.below hr (by (repeat' (first | exact Below.refl _ _ | assumption | refine Below.setCell ?_ ?_ _ | refine Below.drew ?_ | refine Below.alloc ?_ ?_ _ | refine Below.trans ?_ (Below.mono (by assumption) ?_) | (simp; done) | (simp; omega) | omega)))) (by omega)).mono ?_; rintro e w' ⟨rfl, hb⟩; have hc := cellOf hb; have hf := frozOf hb; have hz := sizeOf hb; try simp at hz))
  all_goals go_ret
  all_goals exact ⟨by first | (rw [HV.out]; done) | (rw [HV.out]; rfl), by (repeat' (first | exact Below.refl _ _ | assumption | refine Below.setCell ?_ ?_ _ | refine Below.drew ?_ | refine Below.alloc ?_ ?_ _ | refine Below.trans ?_ (Below.mono (by assumption) ?_) | (simp; done) | (simp; omega) | omega))⟩
 have hbr0 := reqB_br hs0
 have hdb := brB_dur hbr0
 have hok := brB_P hbr0
 have hrm := reqB_P hs0
 have hrl := vB_len (reqB_v hs0)
 go_enter Try.func27, Try.ntmps27
 go_wp2_with (first | (go_at_call 63; refine (c_impl_areRequests _ _ _ _ _ _ _ _ _ (by first | assumption | exact Rds.below hx (by (repeat' (first | exact Below.refl _ _ | assumption | refine Below.setCell ?_ ?_ _ | refine Below.drew ?_ | refine Below.alloc ?_ ?_ _ | refine Below.trans ?_ (Below.mono (by assumption) ?_) | (simp; done) | (simp; omega) | omega)))) (by omega) (by first | assumption | exact Rds.below hr (by (repeat' (first | exact Below.refl _ _ | assumption | refine Below.setCell ?_ ?_ _ | refine Below.drew ?_ | refine Below.alloc ?_ ?_ _ | refine Below.trans ?_ (Below.mono (by assumption) ?_) | (simp; done) | (simp; omega) | omega)))) (by omega)).mono ?_; rintro e w' ⟨rfl, hb⟩; have hc := cellOf hb; have hf := frozOf hb; have hz := sizeOf hb; try simp at hz))
 go_loopw [18] (fun i wr => ∃ k : Nat, k ≤ pl.length ∧ i = .int .i64 k ∧ (∀ j, j < k → vAt (mayB d xs) (gapLe d) pl j = true) ∧ wr.cell? ⟨w.heap.size, 0, none⟩ = some (.int .i64 d) ∧ wr.cell? ⟨w.heap.size, 1, none⟩ = some (.slice A xs.length cap) ∧ wr.cell? ⟨w.heap.size + 1, 0, none⟩ = some (.int .i64 p) ∧ w.heap.size + 2 ≤ wr.heap.size ∧ Below w.heap.size w wr) (fun i _ => pl.length - (intOf i).toNat)
 case atStart =>
  refine ⟨0, Nat.zero_le _, rfl, fun j hj => absurd hj (Nat.not_lt_zero j), ?_, ?_, ?_, ?_, by (repeat' (first | exact Below.refl _ _ | assumption | refine Below.setCell ?_ ?_ _ | refine Below.drew ?_ | refine Below.alloc ?_ ?_ _ | refine Below.trans ?_ (Below.mono (by assumption) ?_) | (simp; done) | (simp; omega) | omega))⟩
  all_goals first | (simp [go_sem, ↓IntWalk.iteOmega, *]; done) | (simp at *; omega)
 case round =>
  obtain ⟨k, hk, rfl, hl, hp0, hp1, hp2, hzz, hbr⟩ := hrel
  have hc := cellOf hbr
  have hf := frozOf hbr
  have hz := sizeOf hbr
  have hp0' : far wr w.heap.size 0 = _ := hp0
  have hp1' : far wr w.heap.size 1 = _ := hp1
  have hp2' : far wr (w.heap.size + 1) 0 = _ := hp2
  by_cases hlt : k < pl.length
  ·obtain ⟨bx, ox, rfl, hbx, hcx⟩ := Rds.all hq (by omega)
   have HB := hid (fun e => planB_no2 (rs := rs) (p := p) (opsB_bad (d := d) (xs := xs) hlt e))
   have HL := hid hl
   clear hl hq
   cases k with
   | zero =>
    have HV := hid (vAt_zero (good := mayB d xs) (lt := gapLe d) hlt)
    have hx0 := hcx 0 hlt 0 _ rfl
    simp only [Nat.zero_mul, Nat.add_zero] at hx0
    clear hcx
    generalize pl[0] = x at *
    by_cases hm : minB x = true
    rotate_left
    ·have hmf : minB x = false := by simpa using hm
     have HG := hid (mayB_min (d := d) (xs := xs) hdb.1 hmf)
     clear hm
     go_wp2_with (fail)
     refine wp_region_w (n := 25) [] [] (FS27_6 d A xs x x bx ox 0 xs.length pl.length cap capp w) rfl (by kernel_rfl) (fun _ _ d _ _ h => by cases d <;> exact h) ?_ ?_ ?_ ?_ ?_ ?_
     ·intro iq
      match iq with
      | 0 | 1 | 2 | 3 | 4 | 5 | 6 | 7 | 8 | 9 | 10 | 11 | 12 | 13 | 14 | 15 | 16 | 17 | 18 | 19 | 20 | 21 | 22 | 23 | 24 => exact Stable.const _
      | n + 25 => exact Stable.const _
     ·intro iq hi
      exact absurd hi (by simp)
     ·intro iq hi
      exact absurd hi (by simp)
     ·intro iq o hi hl ho vals w1 hb1 hf
      exact absurd hl (by simp)
     ·intro iq o hi hl ho vals w1 hb1 hf
      match iq, hi with
      | 0, _ =>
       injection ho with ho
       subst ho
       clear hl
       simp only [fillA, List.take, List.drop, put_none, Act.put, List.setIfInBounds_toArray, List.set_cons_zero, List.set_cons_succ, Nat.reduceAdd]
       clear hf
       go_wp2_with (fail)
       exact RQ.mk rfl ⟨(by first | rfl | (simp [FS27_6]; done) | (simp [FS27_6, *]; done) | (simp [FS27_6, gotV]; done) | (simp [FS27_6, gotV]; omega)), fun h => absurd h (by decide)⟩ (Below.refl _ _)
      | 1, _ =>
       injection ho with ho
       subst ho
       clear hl
       simp only [fillA, List.take, List.drop, put_none, Act.put, List.setIfInBounds_toArray, List.set_cons_zero, List.set_cons_succ, Nat.reduceAdd]
       have f0 := hf 0 (by decide) (by kernel_rfl)
       generalize vals 0 = v0 at *
       subst f0
       clear hf
       have hc1 := cellOf hb1
       have hf1 := frozOf hb1
       have hz1 := sizeOf hb1
       try simp at hz1
       go_wp2_with (first | (go_at_call 57; refine (c_impl_isMinute _ _ ).mono ?_; rintro e w' ⟨rfl, hb⟩; have hc := cellOf hb; have hf := frozOf hb; have hz := sizeOf hb; try simp at hz))
       exact RQ.mk rfl ⟨(by first | rfl | (simp [FS27_6]; done) | (simp [FS27_6, *]; done) | (simp [FS27_6, gotV]; done) | (simp [FS27_6, gotV]; omega)), fun h => absurd h (by decide)⟩ (by (repeat' (first | exact Below.refl _ _ | assumption | refine Below.setCell ?_ ?_ _ | refine Below.drew ?_ | refine Below.alloc ?_ ?_ _ | refine Below.trans ?_ (Below.mono (by assumption) ?_) | (simp; done) | (simp; omega) | omega)))
      | 2, _ =>
       injection ho with ho
       subst ho
       clear hl
       simp only [fillA, List.take, List.drop, put_none, Act.put, List.setIfInBounds_toArray, List.set_cons_zero, List.set_cons_succ, Nat.reduceAdd]
       have f1 := hf 1 (by decide) (by kernel_rfl)
       generalize vals 1 = v1 at *
       subst f1
       clear hf
       go_wp2_with (fail)
       exact RQ.mk rfl ⟨(by first | rfl | (simp [FS27_6]; done) | (simp [FS27_6, *]; done) | (simp [FS27_6, gotV]; done) | (simp [FS27_6, gotV]; omega)), fun h => absurd h (by decide)⟩ (Below.refl _ _)
      | 3, _ =>
       injection ho with ho
       subst ho
       clear hl
       simp only [fillA, List.take, List.drop, put_none, Act.put, List.setIfInBounds_toArray, List.set_cons_zero, List.set_cons_succ, Nat.reduceAdd]
       have f2 := hf 2 (by decide) (by kernel_rfl)
       generalize vals 2 = v2 at *
       subst f2
       have f1 := hf 1 (by decide) (by kernel_rfl)
       generalize vals 1 = v1 at *
       subst f1
       clear hf
       go_wp2_with (fail)
       exact RQ.mk rfl ⟨(by first | rfl | (simp [FS27_6]; done) | (simp [FS27_6, *]; done) | (simp [FS27_6, gotV]; done) | (simp [FS27_6, gotV]; omega)), fun h => absurd h (by decide)⟩ (Below.refl _ _)
      | 4, _ =>
       injection ho with ho
       subst ho
       clear hl
       simp only [fillA, List.take, List.drop, put_none, Act.put, List.setIfInBounds_toArray, List.set_cons_zero, List.set_cons_succ, Nat.reduceAdd]
       have f3 := hf 3 (by decide) (by kernel_rfl)
       generalize vals 3 = v3 at *
       subst f3
       clear hf
       go_wp2_with (fail)
       exact RQ.mk rfl ⟨(by first | rfl | (simp [FS27_6]; done) | (simp [FS27_6, *]; done) | (simp [FS27_6, gotV]; done) | (simp [FS27_6, gotV]; omega)), fun h => absurd h (by decide)⟩ (Below.refl _ _)
      | 5, _ =>
       injection ho with ho
       subst ho
       clear hl
       simp only [fillA, List.take, List.drop, put_none, Act.put, List.setIfInBounds_toArray, List.set_cons_zero, List.set_cons_succ, Nat.reduceAdd]
       have f3 := hf 3 (by decide) (by kernel_rfl)
       generalize vals 3 = v3 at *
       subst f3
       clear hf
       go_wp2_with (fail)
       exact RQ.mk rfl ⟨(by first | rfl | (simp [FS27_6]; done) | (simp [FS27_6, *]; done) | (simp [FS27_6, gotV]; done) | (simp [FS27_6, gotV]; omega)), fun h => absurd h (by decide)⟩ (Below.refl _ _)
      | 6, _ =>
       injection ho with ho
       subst ho
       clear hl
       simp only [fillA, List.take, List.drop, put_none, Act.put, List.setIfInBounds_toArray, List.set_cons_zero, List.set_cons_succ, Nat.reduceAdd]
       have f4 := hf 4 (by decide) (by kernel_rfl)
       generalize vals 4 = v4 at *
       subst f4
       have f5 := hf 5 (by decide) (by kernel_rfl)
       generalize vals 5 = v5 at *
       subst f5
       have f3 := hf 3 (by decide) (by kernel_rfl)
       generalize vals 3 = v3 at *
       subst f3
       clear hf
       go_wp2_with (first | (go_at_call 58; refine (c_impl_mayOpen _ _ _ _ _ _ _ (by first | assumption | exact Rds.below hx (by (repeat' (first | exact Below.refl _ _ | assumption | refine Below.setCell ?_ ?_ _ | refine Below.drew ?_ | refine Below.alloc ?_ ?_ _ | refine Below.trans ?_ (Below.mono (by assumption) ?_) | (simp; done) | (simp; omega) | omega)))) rfl (by omega) hok (by omega) (by omega)).mono ?_; rintro e w' ⟨rfl, hb⟩; have hc := cellOf hb; have hf := frozOf hb; have hz := sizeOf hb; try simp at hz))
       exact RQ.mk rfl ⟨(by first | rfl | (simp [FS27_6]; done) | (simp [FS27_6, *]; done) | (simp [FS27_6, gotV]; done) | (simp [FS27_6, gotV]; omega)), fun h => absurd h (by decide)⟩ (Below.refl _ _)
      | 7, _ =>
       injection ho with ho
       subst ho
       clear hl
       simp only [fillA, List.take, List.drop, put_none, Act.put, List.setIfInBounds_toArray, List.set_cons_zero, List.set_cons_succ, Nat.reduceAdd]
       have f6 := hf 6 (by decide) (by kernel_rfl)
       generalize vals 6 = v6 at *
       subst f6
       have f3 := hf 3 (by decide) (by kernel_rfl)
       generalize vals 3 = v3 at *
       subst f3
       clear hf
       go_wp2_with (fail)
       exact RQ.mk rfl ⟨(by first | rfl | (simp [FS27_6]; done) | (simp [FS27_6, *]; done) | (simp [FS27_6, gotV]; done) | (simp [FS27_6, gotV]; omega)), fun h => absurd h (by decide)⟩ (Below.refl _ _)
      | 8, _ =>
       injection ho with ho
       subst ho
       clear hl
       simp only [fillA, List.take, List.drop, put_none, Act.put, List.setIfInBounds_toArray, List.set_cons_zero, List.set_cons_succ, Nat.reduceAdd]
       have f3 := hf 3 (by decide) (by kernel_rfl)
       generalize vals 3 = v3 at *
       subst f3
       have f7 := hf 7 (by decide) (by kernel_rfl)
       generalize vals 7 = v7 at *
       subst f7
       clear hf
       go_wp2_with (fail)
       exact RQ.mk rfl ⟨(by first | rfl | (simp [FS27_6]; done) | (simp [FS27_6, *]; done) | (simp [FS27_6, gotV]; done) | (simp [FS27_6, gotV]; omega)), fun h => absurd h (by decide)⟩ (Below.refl _ _)
      | 9, _ =>
       injection ho with ho
       subst ho
       clear hl
       simp only [fillA, List.take, List.drop, put_none, Act.put, List.setIfInBounds_toArray, List.set_cons_zero, List.set_cons_succ, Nat.reduceAdd]
       have f8 := hf 8 (by decide) (by kernel_rfl)
       generalize vals 8 = v8 at *
       subst f8
       have f6 := hf 6 (by decide) (by kernel_rfl)
       generalize vals 6 = v6 at *
       subst f6
       clear hf
       go_wp2_with (fail)
       exact RQ.mk rfl ⟨(by first | rfl | (simp [FS27_6]; done) | (simp [FS27_6, *]; done) | (simp [FS27_6, gotV]; done) | (simp [FS27_6, gotV]; omega)), fun h => absurd h (by decide)⟩ (Below.refl _ _)
      | 10, _ =>
       injection ho with ho
       subst ho
       clear hl
       simp only [fillA, List.take, List.drop, put_none, Act.put, List.setIfInBounds_toArray, List.set_cons_zero, List.set_cons_succ, Nat.reduceAdd]
       have f9 := hf 9 (by decide) (by kernel_rfl)
       generalize vals 9 = v9 at *
       subst f9
       clear hf
       go_wp2_with (fail)
       exact RQ.mk rfl ⟨(by first | rfl | (simp [FS27_6]; done) | (simp [FS27_6, *]; done) | (simp [FS27_6, gotV]; done) | (simp [FS27_6, gotV]; omega)), fun h => absurd h (by decide)⟩ (Below.refl _ _)
      | 11, _ =>
       injection ho with ho
       subst ho
       clear hl
       simp only [fillA, List.take, List.drop, put_none, Act.put, List.setIfInBounds_toArray, List.set_cons_zero, List.set_cons_succ, Nat.reduceAdd]
       have f10 := hf 10 (by decide) (by kernel_rfl)
       generalize vals 10 = v10 at *
       subst f10
       have f9 := hf 9 (by decide) (by kernel_rfl)
       generalize vals 9 = v9 at *
       subst f9
       clear hf
       go_wp2_with (fail)
       exact RQ.mk rfl ⟨(by first | rfl | (simp [FS27_6]; done) | (simp [FS27_6, *]; done) | (simp [FS27_6, gotV]; done) | (simp [FS27_6, gotV]; omega)), fun h => absurd h (by decide)⟩ (Below.refl _ _)
      | 12, _ =>
       injection ho with ho
       subst ho
       clear hl
       simp only [fillA, List.take, List.drop, put_none, Act.put, List.setIfInBounds_toArray, List.set_cons_zero, List.set_cons_succ, Nat.reduceAdd]
       have f11 := hf 11 (by decide) (by kernel_rfl)
       generalize vals 11 = v11 at *
       subst f11
       have f9 := hf 9 (by decide) (by kernel_rfl)
       generalize vals 9 = v9 at *
       subst f9
       clear hf
       go_wp2_with (fail)
       exact RQ.mk rfl ⟨(by first | rfl | (simp [FS27_6]; done) | (simp [FS27_6, *]; done) | (simp [FS27_6, gotV]; done) | (simp [FS27_6, gotV]; omega)), fun h => absurd h (by decide)⟩ (Below.refl _ _)
      | 13, _ =>
       injection ho with ho
       subst ho
       clear hl
       simp only [fillA, List.take, List.drop, put_none, Act.put, List.setIfInBounds_toArray, List.set_cons_zero, List.set_cons_succ, Nat.reduceAdd]
       have f12 := hf 12 (by decide) (by kernel_rfl)
       generalize vals 12 = v12 at *
       subst f12
       clear hf
       go_wp2_with (fail)
       exact RQ.mk rfl ⟨(by first | rfl | (simp [FS27_6]; done) | (simp [FS27_6, *]; done) | (simp [FS27_6, gotV]; done) | (simp [FS27_6, gotV]; omega)), fun h => absurd h (by decide)⟩ (Below.refl _ _)
      | 14, _ =>
       injection ho with ho
       subst ho
       clear hl
       simp only [fillA, List.take, List.drop, put_none, Act.put, List.setIfInBounds_toArray, List.set_cons_zero, List.set_cons_succ, Nat.reduceAdd]
       have f12 := hf 12 (by decide) (by kernel_rfl)
       generalize vals 12 = v12 at *
       subst f12
       clear hf
       go_wp2_with (fail)
       exact RQ.mk rfl ⟨(by first | rfl | (simp [FS27_6]; done) | (simp [FS27_6, *]; done) | (simp [FS27_6, gotV]; done) | (simp [FS27_6, gotV]; omega)), fun h => absurd h (by decide)⟩ (Below.refl _ _)
      | 15, _ =>
       injection ho with ho
       subst ho
       clear hl
       simp only [fillA, List.take, List.drop, put_none, Act.put, List.setIfInBounds_toArray, List.set_cons_zero, List.set_cons_succ, Nat.reduceAdd]
       have f12 := hf 12 (by decide) (by kernel_rfl)
       generalize vals 12 = v12 at *
       subst f12
       clear hf
       go_wp2_with (fail)
       exact RQ.mk rfl ⟨(by first | rfl | (simp [FS27_6]; done) | (simp [FS27_6, *]; done) | (simp [FS27_6, gotV]; done) | (simp [FS27_6, gotV]; omega)), fun h => absurd h (by decide)⟩ (Below.refl _ _)
      | 16, _ =>
       injection ho with ho
       subst ho
       clear hl
       simp only [fillA, List.take, List.drop, put_none, Act.put, List.setIfInBounds_toArray, List.set_cons_zero, List.set_cons_succ, Nat.reduceAdd]
       have f15 := hf 15 (by decide) (by kernel_rfl)
       generalize vals 15 = v15 at *
       subst f15
       have f12 := hf 12 (by decide) (by kernel_rfl)
       generalize vals 12 = v12 at *
       subst f12
       clear hf
       go_wp2_with (fail)
       exact RQ.mk rfl ⟨(by first | rfl | (simp [FS27_6]; done) | (simp [FS27_6, *]; done) | (simp [FS27_6, gotV]; done) | (simp [FS27_6, gotV]; omega)), fun h => absurd h (by decide)⟩ (Below.refl _ _)
      | 17, _ =>
       injection ho with ho
       subst ho
       clear hl
       simp only [fillA, List.take, List.drop, put_none, Act.put, List.setIfInBounds_toArray, List.set_cons_zero, List.set_cons_succ, Nat.reduceAdd]
       have f14 := hf 14 (by decide) (by kernel_rfl)
       generalize vals 14 = v14 at *
       subst f14
       have f16 := hf 16 (by decide) (by kernel_rfl)
       generalize vals 16 = v16 at *
       subst f16
       have f12 := hf 12 (by decide) (by kernel_rfl)
       generalize vals 12 = v12 at *
       subst f12
       clear hf
       go_wp2_with (fail)
       exact RQ.mk rfl ⟨(by first | rfl | (simp [FS27_6]; done) | (simp [FS27_6, *]; done) | (simp [FS27_6, gotV]; done) | (simp [FS27_6, gotV]; omega)), fun h => absurd h (by decide)⟩ (Below.refl _ _)
      | 18, _ =>
       injection ho with ho
       subst ho
       clear hl
       simp only [fillA, List.take, List.drop, put_none, Act.put, List.setIfInBounds_toArray, List.set_cons_zero, List.set_cons_succ, Nat.reduceAdd]
       have f17 := hf 17 (by decide) (by kernel_rfl)
       generalize vals 17 = v17 at *
       subst f17
       have f12 := hf 12 (by decide) (by kernel_rfl)
       generalize vals 12 = v12 at *
       subst f12
       clear hf
       go_wp2_with (fail)
       exact RQ.mk rfl ⟨(by first | rfl | (simp [FS27_6]; done) | (simp [FS27_6, *]; done) | (simp [FS27_6, gotV]; done) | (simp [FS27_6, gotV]; omega)), fun h => absurd h (by decide)⟩ (Below.refl _ _)
      | 19, _ =>
       injection ho with ho
       subst ho
       clear hl
       simp only [fillA, List.take, List.drop, put_none, Act.put, List.setIfInBounds_toArray, List.set_cons_zero, List.set_cons_succ, Nat.reduceAdd]
       have f13 := hf 13 (by decide) (by kernel_rfl)
       generalize vals 13 = v13 at *
       subst f13
       have f18 := hf 18 (by decide) (by kernel_rfl)
       generalize vals 18 = v18 at *
       subst f18
       have f12 := hf 12 (by decide) (by kernel_rfl)
       generalize vals 12 = v12 at *
       subst f12
       clear hf
       go_wp2_with (fail)
       exact RQ.mk rfl ⟨(by first | rfl | (simp [FS27_6]; done) | (simp [FS27_6, *]; done) | (simp [FS27_6, gotV]; done) | (simp [FS27_6, gotV]; omega)), fun h => absurd h (by decide)⟩ (Below.refl _ _)
      | 20, _ =>
       injection ho with ho
       subst ho
       clear hl
       simp only [fillA, List.take, List.drop, put_none, Act.put, List.setIfInBounds_toArray, List.set_cons_zero, List.set_cons_succ, Nat.reduceAdd]
       have f12 := hf 12 (by decide) (by kernel_rfl)
       generalize vals 12 = v12 at *
       subst f12
       clear hf
       go_wp2_with (fail)
       exact RQ.mk rfl ⟨(by first | rfl | (simp [FS27_6]; done) | (simp [FS27_6, *]; done) | (simp [FS27_6, gotV]; done) | (simp [FS27_6, gotV]; omega)), fun h => absurd h (by decide)⟩ (Below.refl _ _)
      | 21, _ =>
       injection ho with ho
       subst ho
       clear hl
       simp only [fillA, List.take, List.drop, put_none, Act.put, List.setIfInBounds_toArray, List.set_cons_zero, List.set_cons_succ, Nat.reduceAdd]
       have f20 := hf 20 (by decide) (by kernel_rfl)
       generalize vals 20 = v20 at *
       subst f20
       have f12 := hf 12 (by decide) (by kernel_rfl)
       generalize vals 12 = v12 at *
       subst f12
       clear hf
       go_wp2_with (fail)
       exact RQ.mk rfl ⟨(by first | rfl | (simp [FS27_6]; done) | (simp [FS27_6, *]; done) | (simp [FS27_6, gotV]; done) | (simp [FS27_6, gotV]; omega)), fun h => absurd h (by decide)⟩ (Below.refl _ _)
      | 22, _ =>
       injection ho with ho
       subst ho
       clear hl
       simp only [fillA, List.take, List.drop, put_none, Act.put, List.setIfInBounds_toArray, List.set_cons_zero, List.set_cons_succ, Nat.reduceAdd]
       have f19 := hf 19 (by decide) (by kernel_rfl)
       generalize vals 19 = v19 at *
       subst f19
       have f21 := hf 21 (by decide) (by kernel_rfl)
       generalize vals 21 = v21 at *
       subst f21
       have f12 := hf 12 (by decide) (by kernel_rfl)
       generalize vals 12 = v12 at *
       subst f12
       clear hf
       go_wp2_with (fail)
       exact RQ.mk rfl ⟨(by first | rfl | (simp [FS27_6]; done) | (simp [FS27_6, *]; done) | (simp [FS27_6, gotV]; done) | (simp [FS27_6, gotV]; omega)), fun h => absurd h (by decide)⟩ (Below.refl _ _)
      | 23, _ =>
       injection ho with ho
       subst ho
       clear hl
       simp only [fillA, List.take, List.drop, put_none, Act.put, List.setIfInBounds_toArray, List.set_cons_zero, List.set_cons_succ, Nat.reduceAdd]
       have f12 := hf 12 (by decide) (by kernel_rfl)
       generalize vals 12 = v12 at *
       subst f12
       have f22 := hf 22 (by decide) (by kernel_rfl)
       generalize vals 22 = v22 at *
       subst f22
       have f9 := hf 9 (by decide) (by kernel_rfl)
       generalize vals 9 = v9 at *
       subst f9
       clear hf
       go_wp2_with (fail)
       exact RQ.mk rfl ⟨(by first | rfl | (simp [FS27_6]; done) | (simp [FS27_6, *]; done) | (simp [FS27_6, gotV]; done) | (simp [FS27_6, gotV]; omega)), fun h => absurd h (by decide)⟩ (Below.refl _ _)
      | 24, _ =>
       injection ho with ho
       subst ho
       clear hl
       simp only [fillA, List.take, List.drop, put_none, Act.put, List.setIfInBounds_toArray, List.set_cons_zero, List.set_cons_succ, Nat.reduceAdd]
       have f9 := hf 9 (by decide) (by kernel_rfl)
       generalize vals 9 = v9 at *
       subst f9
       have f23 := hf 23 (by decide) (by kernel_rfl)
       generalize vals 23 = v23 at *
       subst f23
       clear hf
       go_wp2_with (fail)
       exact RQ.mk rfl ⟨(by first | rfl | (simp [FS27_6]; done) | (simp [FS27_6, *]; done) | (simp [FS27_6, gotV]; done) | (simp [FS27_6, gotV]; omega)), fun h => absurd h (by decide)⟩ (Below.refl _ _)
      | m + 25, h => exact absurd h (by omega)
     ·intro vals w1 hb1 hf hd
      simp only [fillA, List.take, List.drop, put_none, Act.put, List.setIfInBounds_toArray, List.set_cons_zero, List.set_cons_succ, Nat.reduceAdd]
      clear hd
      have f0 := hf 0 (by decide)
      generalize vals 0 = v0 at *
      subst f0
      have f1 := hf 1 (by decide)
      generalize vals 1 = v1 at *
      subst f1
      have f2 := hf 2 (by decide)
      generalize vals 2 = v2 at *
      subst f2
      have f3 := hf 3 (by decide)
      generalize vals 3 = v3 at *
      subst f3
      have f4 := hf 4 (by decide)
      generalize vals 4 = v4 at *
      subst f4
      have f5 := hf 5 (by decide)
      generalize vals 5 = v5 at *
      subst f5
      have f6 := hf 6 (by decide)
      generalize vals 6 = v6 at *
      subst f6
      have f7 := hf 7 (by decide)
      generalize vals 7 = v7 at *
      subst f7
      have f8 := hf 8 (by decide)
      generalize vals 8 = v8 at *
      subst f8
      have f9 := hf 9 (by decide)
      generalize vals 9 = v9 at *
      subst f9
      have f10 := hf 10 (by decide)
      generalize vals 10 = v10 at *
      subst f10
      have f11 := hf 11 (by decide)
      generalize vals 11 = v11 at *
      subst f11
      have f12 := hf 12 (by decide)
      generalize vals 12 = v12 at *
      subst f12
      have f13 := hf 13 (by decide)
      generalize vals 13 = v13 at *
      subst f13
      have f14 := hf 14 (by decide)
      generalize vals 14 = v14 at *
      subst f14
      have f15 := hf 15 (by decide)
      generalize vals 15 = v15 at *
      subst f15
      have f16 := hf 16 (by decide)
      generalize vals 16 = v16 at *
      subst f16
      have f17 := hf 17 (by decide)
      generalize vals 17 = v17 at *
      subst f17
      have f18 := hf 18 (by decide)
      generalize vals 18 = v18 at *
      subst f18
      have f19 := hf 19 (by decide)
      generalize vals 19 = v19 at *
      subst f19
      have f20 := hf 20 (by decide)
      generalize vals 20 = v20 at *
      subst f20
      have f21 := hf 21 (by decide)
      generalize vals 21 = v21 at *
      subst f21
      have f22 := hf 22 (by decide)
      generalize vals 22 = v22 at *
      subst f22
      have f23 := hf 23 (by decide)
      generalize vals 23 = v23 at *
      subst f23
      have f24 := hf 24 (by decide)
      generalize vals 24 = v24 at *
      subst f24
      clear hf
      have hc1 := cellOf hb1
      have hf1 := frozOf hb1
      have hz1 := sizeOf hb1
      try simp at hz1
      go_wp2_with (fail)
      go_ret
      exact ⟨ret_bool (by rw [HB.out (by rw [HV.out, HG.out])]), by (repeat' (first | exact Below.refl _ _ | assumption | refine Below.setCell ?_ ?_ _ | refine Below.drew ?_ | refine Below.alloc ?_ ?_ _ | refine Below.trans ?_ (Below.mono (by assumption) ?_) | (simp; done) | (simp; omega) | omega))⟩
    have hxm := minB_bd hm
    by_cases hg : mayB d xs x = true
    ·have HG := hid hg
     go_wp2_with (fail)
     refine wp_region_w (n := 25) [] [] (FS27_6_28 d A xs x x bx ox 0 xs.length pl.length cap capp w) rfl (by kernel_rfl) (fun _ _ d _ _ h => by cases d <;> exact h) ?_ ?_ ?_ ?_ ?_ ?_
     ·intro iq
      match iq with
      | 0 | 1 | 2 | 3 | 4 | 5 | 6 | 7 | 8 | 9 | 10 | 11 | 12 | 13 | 14 | 15 | 16 | 17 | 18 | 19 | 20 | 21 | 22 | 23 | 24 => exact Stable.const _
      | n + 25 => exact Stable.const _
     ·intro iq hi
      exact absurd hi (by simp)
     ·intro iq hi
      exact absurd hi (by simp)
     ·intro iq o hi hl ho vals w1 hb1 hf
      exact absurd hl (by simp)
     ·intro iq o hi hl ho vals w1 hb1 hf
      match iq, hi with
      | 0, _ =>
       injection ho with ho
       subst ho
       clear hl
       simp only [fillA, List.take, List.drop, put_none, Act.put, List.setIfInBounds_toArray, List.set_cons_zero, List.set_cons_succ, Nat.reduceAdd]
       clear hf
       go_wp2_with (fail)
       exact RQ.mk rfl ⟨(by first | rfl | (simp [FS27_6_28]; done) | (simp [FS27_6_28, *]; done) | (simp [FS27_6_28, gotV]; done) | (simp [FS27_6_28, gotV]; omega)), fun h => absurd h (by decide)⟩ (Below.refl _ _)
      | 1, _ =>
       injection ho with ho
       subst ho
       clear hl
       simp only [fillA, List.take, List.drop, put_none, Act.put, List.setIfInBounds_toArray, List.set_cons_zero, List.set_cons_succ, Nat.reduceAdd]
       have f0 := hf 0 (by decide) (by kernel_rfl)
       generalize vals 0 = v0 at *
       subst f0
       clear hf
       have hc1 := cellOf hb1
       have hf1 := frozOf hb1
       have hz1 := sizeOf hb1
       try simp at hz1
       go_wp2_with (first | (go_at_call 57; refine (c_impl_isMinute _ _ ).mono ?_; rintro e w' ⟨rfl, hb⟩; have hc := cellOf hb; have hf := frozOf hb; have hz := sizeOf hb; try simp at hz))
       exact RQ.mk rfl ⟨(by first | rfl | (simp [FS27_6_28]; done) | (simp [FS27_6_28, *]; done) | (simp [FS27_6_28, gotV]; done) | (simp [FS27_6_28, gotV]; omega)), fun h => absurd h (by decide)⟩ (by (repeat' (first | exact Below.refl _ _ | assumption | refine Below.setCell ?_ ?_ _ | refine Below.drew ?_ | refine Below.alloc ?_ ?_ _ | refine Below.trans ?_ (Below.mono (by assumption) ?_) | (simp; done) | (simp; omega) | omega)))
      | 2, _ =>
       injection ho with ho
       subst ho
       clear hl
       simp only [fillA, List.take, List.drop, put_none, Act.put, List.setIfInBounds_toArray, List.set_cons_zero, List.set_cons_succ, Nat.reduceAdd]
       have f1 := hf 1 (by decide) (by kernel_rfl)
       generalize vals 1 = v1 at *
       subst f1
       clear hf
       go_wp2_with (fail)
       exact RQ.mk rfl ⟨(by first | rfl | (simp [FS27_6_28]; done) | (simp [FS27_6_28, *]; done) | (simp [FS27_6_28, gotV]; done) | (simp [FS27_6_28, gotV]; omega)), fun h => absurd h (by decide)⟩ (Below.refl _ _)
      | 3, _ =>
       injection ho with ho
       subst ho
       clear hl
       simp only [fillA, List.take, List.drop, put_none, Act.put, List.setIfInBounds_toArray, List.set_cons_zero, List.set_cons_succ, Nat.reduceAdd]
       have f2 := hf 2 (by decide) (by kernel_rfl)
       generalize vals 2 = v2 at *
       subst f2
       have f1 := hf 1 (by decide) (by kernel_rfl)
       generalize vals 1 = v1 at *
       subst f1
       clear hf
       go_wp2_with (fail)
       exact RQ.mk rfl ⟨(by first | rfl | (simp [FS27_6_28]; done) | (simp [FS27_6_28, *]; done) | (simp [FS27_6_28, gotV]; done) | (simp [FS27_6_28, gotV]; omega)), fun h => absurd h (by decide)⟩ (Below.refl _ _)
      | 4, _ =>
       injection ho with ho
       subst ho
       clear hl
       simp only [fillA, List.take, List.drop, put_none, Act.put, List.setIfInBounds_toArray, List.set_cons_zero, List.set_cons_succ, Nat.reduceAdd]
       have f3 := hf 3 (by decide) (by kernel_rfl)
       generalize vals 3 = v3 at *
       subst f3
       clear hf
       have hc1 := cellOf hb1
       have hf1 := frozOf hb1
       have hz1 := sizeOf hb1
       try simp at hz1
       go_wp2_with (fail)
       exact RQ.mk rfl ⟨(by first | rfl | (simp [FS27_6_28]; done) | (simp [FS27_6_28, *]; done) | (simp [FS27_6_28, gotV]; done) | (simp [FS27_6_28, gotV]; omega)), fun h => absurd h (by decide)⟩ (Below.refl _ _)
      | 5, _ =>
       injection ho with ho
       subst ho
       clear hl
       simp only [fillA, List.take, List.drop, put_none, Act.put, List.setIfInBounds_toArray, List.set_cons_zero, List.set_cons_succ, Nat.reduceAdd]
       have f3 := hf 3 (by decide) (by kernel_rfl)
       generalize vals 3 = v3 at *
       subst f3
       clear hf
       go_wp2_with (fail)
       exact RQ.mk rfl ⟨(by first | rfl | (simp [FS27_6_28]; done) | (simp [FS27_6_28, *]; done) | (simp [FS27_6_28, gotV]; done) | (simp [FS27_6_28, gotV]; omega)), fun h => absurd h (by decide)⟩ (Below.refl _ _)
      | 6, _ =>
       injection ho with ho
       subst ho
       clear hl
       simp only [fillA, List.take, List.drop, put_none, Act.put, List.setIfInBounds_toArray, List.set_cons_zero, List.set_cons_succ, Nat.reduceAdd]
       have f4 := hf 4 (by decide) (by kernel_rfl)
       generalize vals 4 = v4 at *
       subst f4
       have f5 := hf 5 (by decide) (by kernel_rfl)
       generalize vals 5 = v5 at *
       subst f5
       have f3 := hf 3 (by decide) (by kernel_rfl)
       generalize vals 3 = v3 at *
       subst f3
       clear hf
       have hc1 := cellOf hb1
       have hf1 := frozOf hb1
       have hz1 := sizeOf hb1
       try simp at hz1
       go_wp2_with (first | (go_at_call 58; refine (c_impl_mayOpen _ _ _ _ _ _ _ (by first | assumption | exact Rds.below hx (by (repeat' (first | exact Below.refl _ _ | assumption | refine Below.setCell ?_ ?_ _ | refine Below.drew ?_ | refine Below.alloc ?_ ?_ _ | refine Below.trans ?_ (Below.mono (by assumption) ?_) | (simp; done) | (simp; omega) | omega)))) rfl (by omega) hok (by omega) (by omega)).mono ?_; rintro e w' ⟨rfl, hb⟩; have hc := cellOf hb; have hf := frozOf hb; have hz := sizeOf hb; try simp at hz))
       exact RQ.mk rfl ⟨(by first | rfl | (simp [FS27_6_28]; done) | (simp [FS27_6_28, *]; done) | (simp [FS27_6_28, gotV]; done) | (simp [FS27_6_28, gotV]; omega)), fun h => absurd h (by decide)⟩ (by (repeat' (first | exact Below.refl _ _ | assumption | refine Below.setCell ?_ ?_ _ | refine Below.drew ?_ | refine Below.alloc ?_ ?_ _ | refine Below.trans ?_ (Below.mono (by assumption) ?_) | (simp; done) | (simp; omega) | omega)))
      | 7, _ =>
       injection ho with ho
       subst ho
       clear hl
       simp only [fillA, List.take, List.drop, put_none, Act.put, List.setIfInBounds_toArray, List.set_cons_zero, List.set_cons_succ, Nat.reduceAdd]
       have f6 := hf 6 (by decide) (by kernel_rfl)
       generalize vals 6 = v6 at *
       subst f6
       have f3 := hf 3 (by decide) (by kernel_rfl)
       generalize vals 3 = v3 at *
       subst f3
       clear hf
       go_wp2_with (fail)
       exact RQ.mk rfl ⟨(by first | rfl | (simp [FS27_6_28]; done) | (simp [FS27_6_28, *]; done) | (simp [FS27_6_28, gotV]; done) | (simp [FS27_6_28, gotV]; omega)), fun h => absurd h (by decide)⟩ (Below.refl _ _)
      | 8, _ =>
       injection ho with ho
       subst ho
       clear hl
       simp only [fillA, List.take, List.drop, put_none, Act.put, List.setIfInBounds_toArray, List.set_cons_zero, List.set_cons_succ, Nat.reduceAdd]
       have f3 := hf 3 (by decide) (by kernel_rfl)
       generalize vals 3 = v3 at *
       subst f3
       have f7 := hf 7 (by decide) (by kernel_rfl)
       generalize vals 7 = v7 at *
       subst f7
       clear hf
       go_wp2_with (fail)
       exact RQ.mk rfl ⟨(by first | rfl | (simp [FS27_6_28]; done) | (simp [FS27_6_28, *]; done) | (simp [FS27_6_28, gotV]; done) | (simp [FS27_6_28, gotV]; omega)), fun h => absurd h (by decide)⟩ (Below.refl _ _)
      | 9, _ =>
       injection ho with ho
       subst ho
       clear hl
       simp only [fillA, List.take, List.drop, put_none, Act.put, List.setIfInBounds_toArray, List.set_cons_zero, List.set_cons_succ, Nat.reduceAdd]
       have f8 := hf 8 (by decide) (by kernel_rfl)
       generalize vals 8 = v8 at *
       subst f8
       have f6 := hf 6 (by decide) (by kernel_rfl)
       generalize vals 6 = v6 at *
       subst f6
       clear hf
       go_wp2_with (fail)
       exact RQ.mk rfl ⟨(by first | rfl | (simp [FS27_6_28]; done) | (simp [FS27_6_28, *]; done) | (simp [FS27_6_28, gotV]; done) | (simp [FS27_6_28, gotV]; omega)), fun h => absurd h (by decide)⟩ (Below.refl _ _)
      | 10, _ =>
       injection ho with ho
       subst ho
       clear hl
       simp only [fillA, List.take, List.drop, put_none, Act.put, List.setIfInBounds_toArray, List.set_cons_zero, List.set_cons_succ, Nat.reduceAdd]
       have f9 := hf 9 (by decide) (by kernel_rfl)
       generalize vals 9 = v9 at *
       subst f9
       clear hf
       go_wp2_with (fail)
       exact RQ.mk rfl ⟨(by first | rfl | (simp [FS27_6_28]; done) | (simp [FS27_6_28, *]; done) | (simp [FS27_6_28, gotV]; done) | (simp [FS27_6_28, gotV]; omega)), fun h => absurd h (by decide)⟩ (Below.refl _ _)
      | 11, _ =>
       injection ho with ho
       subst ho
       clear hl
       simp only [fillA, List.take, List.drop, put_none, Act.put, List.setIfInBounds_toArray, List.set_cons_zero, List.set_cons_succ, Nat.reduceAdd]
       have f10 := hf 10 (by decide) (by kernel_rfl)
       generalize vals 10 = v10 at *
       subst f10
       have f9 := hf 9 (by decide) (by kernel_rfl)
       generalize vals 9 = v9 at *
       subst f9
       clear hf
       go_wp2_with (fail)
       exact RQ.mk rfl ⟨(by first | rfl | (simp [FS27_6_28]; done) | (simp [FS27_6_28, *]; done) | (simp [FS27_6_28, gotV]; done) | (simp [FS27_6_28, gotV]; omega)), fun h => absurd h (by decide)⟩ (Below.refl _ _)
      | 12, _ =>
       injection ho with ho
       subst ho
       clear hl
       simp only [fillA, List.take, List.drop, put_none, Act.put, List.setIfInBounds_toArray, List.set_cons_zero, List.set_cons_succ, Nat.reduceAdd]
       have f11 := hf 11 (by decide) (by kernel_rfl)
       generalize vals 11 = v11 at *
       subst f11
       have f9 := hf 9 (by decide) (by kernel_rfl)
       generalize vals 9 = v9 at *
       subst f9
       clear hf
       go_wp2_with (fail)
       exact RQ.mk rfl ⟨(by first | rfl | (simp [FS27_6_28]; done) | (simp [FS27_6_28, *]; done) | (simp [FS27_6_28, gotV]; done) | (simp [FS27_6_28, gotV]; omega)), fun h => absurd h (by decide)⟩ (Below.refl _ _)
      | 13, _ =>
       injection ho with ho
       subst ho
       clear hl
       simp only [fillA, List.take, List.drop, put_none, Act.put, List.setIfInBounds_toArray, List.set_cons_zero, List.set_cons_succ, Nat.reduceAdd]
       have f12 := hf 12 (by decide) (by kernel_rfl)
       generalize vals 12 = v12 at *
       subst f12
       clear hf
       go_wp2_with (fail)
       exact RQ.mk rfl ⟨(by first | rfl | (simp [FS27_6_28]; done) | (simp [FS27_6_28, *]; done) | (simp [FS27_6_28, gotV]; done) | (simp [FS27_6_28, gotV]; omega)), fun h => absurd h (by decide)⟩ (Below.refl _ _)
      | 14, _ =>
       injection ho with ho
       subst ho
       clear hl
       simp only [fillA, List.take, List.drop, put_none, Act.put, List.setIfInBounds_toArray, List.set_cons_zero, List.set_cons_succ, Nat.reduceAdd]
       have f12 := hf 12 (by decide) (by kernel_rfl)
       generalize vals 12 = v12 at *
       subst f12
       clear hf
       go_wp2_with (fail)
       exact RQ.mk rfl ⟨(by first | rfl | (simp [FS27_6_28]; done) | (simp [FS27_6_28, *]; done) | (simp [FS27_6_28, gotV]; done) | (simp [FS27_6_28, gotV]; omega)), fun h => absurd h (by decide)⟩ (Below.refl _ _)
      | 15, _ =>
       injection ho with ho
       subst ho
       clear hl
       simp only [fillA, List.take, List.drop, put_none, Act.put, List.setIfInBounds_toArray, List.set_cons_zero, List.set_cons_succ, Nat.reduceAdd]
       have f12 := hf 12 (by decide) (by kernel_rfl)
       generalize vals 12 = v12 at *
       subst f12
       clear hf
       go_wp2_with (fail)
       exact RQ.mk rfl ⟨(by first | rfl | (simp [FS27_6_28]; done) | (simp [FS27_6_28, *]; done) | (simp [FS27_6_28, gotV]; done) | (simp [FS27_6_28, gotV]; omega)), fun h => absurd h (by decide)⟩ (Below.refl _ _)
      | 16, _ =>
       injection ho with ho
       subst ho
       clear hl
       simp only [fillA, List.take, List.drop, put_none, Act.put, List.setIfInBounds_toArray, List.set_cons_zero, List.set_cons_succ, Nat.reduceAdd]
       have f15 := hf 15 (by decide) (by kernel_rfl)
       generalize vals 15 = v15 at *
       subst f15
       have f12 := hf 12 (by decide) (by kernel_rfl)
       generalize vals 12 = v12 at *
       subst f12
       clear hf
       go_wp2_with (fail)
       exact RQ.mk rfl ⟨(by first | rfl | (simp [FS27_6_28]; done) | (simp [FS27_6_28, *]; done) | (simp [FS27_6_28, gotV]; done) | (simp [FS27_6_28, gotV]; omega)), fun h => absurd h (by decide)⟩ (Below.refl _ _)
      | 17, _ =>
       injection ho with ho
       subst ho
       clear hl
       simp only [fillA, List.take, List.drop, put_none, Act.put, List.setIfInBounds_toArray, List.set_cons_zero, List.set_cons_succ, Nat.reduceAdd]
       have f14 := hf 14 (by decide) (by kernel_rfl)
       generalize vals 14 = v14 at *
       subst f14
       have f16 := hf 16 (by decide) (by kernel_rfl)
       generalize vals 16 = v16 at *
       subst f16
       have f12 := hf 12 (by decide) (by kernel_rfl)
       generalize vals 12 = v12 at *
       subst f12
       clear hf
       go_wp2_with (fail)
       exact RQ.mk rfl ⟨(by first | rfl | (simp [FS27_6_28]; done) | (simp [FS27_6_28, *]; done) | (simp [FS27_6_28, gotV]; done) | (simp [FS27_6_28, gotV]; omega)), fun h => absurd h (by decide)⟩ (Below.refl _ _)
      | 18, _ =>
       injection ho with ho
       subst ho
       clear hl
       simp only [fillA, List.take, List.drop, put_none, Act.put, List.setIfInBounds_toArray, List.set_cons_zero, List.set_cons_succ, Nat.reduceAdd]
       have f17 := hf 17 (by decide) (by kernel_rfl)
       generalize vals 17 = v17 at *
       subst f17
       have f12 := hf 12 (by decide) (by kernel_rfl)
       generalize vals 12 = v12 at *
       subst f12
       clear hf
       go_wp2_with (fail)
       exact RQ.mk rfl ⟨(by first | rfl | (simp [FS27_6_28]; done) | (simp [FS27_6_28, *]; done) | (simp [FS27_6_28, gotV]; done) | (simp [FS27_6_28, gotV]; omega)), fun h => absurd h (by decide)⟩ (Below.refl _ _)
      | 19, _ =>
       injection ho with ho
       subst ho
       clear hl
       simp only [fillA, List.take, List.drop, put_none, Act.put, List.setIfInBounds_toArray, List.set_cons_zero, List.set_cons_succ, Nat.reduceAdd]
       have f13 := hf 13 (by decide) (by kernel_rfl)
       generalize vals 13 = v13 at *
       subst f13
       have f18 := hf 18 (by decide) (by kernel_rfl)
       generalize vals 18 = v18 at *
       subst f18
       have f12 := hf 12 (by decide) (by kernel_rfl)
       generalize vals 12 = v12 at *
       subst f12
       clear hf
       go_wp2_with (fail)
       exact RQ.mk rfl ⟨(by first | rfl | (simp [FS27_6_28]; done) | (simp [FS27_6_28, *]; done) | (simp [FS27_6_28, gotV]; done) | (simp [FS27_6_28, gotV]; omega)), fun h => absurd h (by decide)⟩ (Below.refl _ _)
      | 20, _ =>
       injection ho with ho
       subst ho
       clear hl
       simp only [fillA, List.take, List.drop, put_none, Act.put, List.setIfInBounds_toArray, List.set_cons_zero, List.set_cons_succ, Nat.reduceAdd]
       have f12 := hf 12 (by decide) (by kernel_rfl)
       generalize vals 12 = v12 at *
       subst f12
       clear hf
       go_wp2_with (fail)
       exact RQ.mk rfl ⟨(by first | rfl | (simp [FS27_6_28]; done) | (simp [FS27_6_28, *]; done) | (simp [FS27_6_28, gotV]; done) | (simp [FS27_6_28, gotV]; omega)), fun h => absurd h (by decide)⟩ (Below.refl _ _)
      | 21, _ =>
       injection ho with ho
       subst ho
       clear hl
       simp only [fillA, List.take, List.drop, put_none, Act.put, List.setIfInBounds_toArray, List.set_cons_zero, List.set_cons_succ, Nat.reduceAdd]
       have f20 := hf 20 (by decide) (by kernel_rfl)
       generalize vals 20 = v20 at *
       subst f20
       have f12 := hf 12 (by decide) (by kernel_rfl)
       generalize vals 12 = v12 at *
       subst f12
       clear hf
       go_wp2_with (fail)
       exact RQ.mk rfl ⟨(by first | rfl | (simp [FS27_6_28]; done) | (simp [FS27_6_28, *]; done) | (simp [FS27_6_28, gotV]; done) | (simp [FS27_6_28, gotV]; omega)), fun h => absurd h (by decide)⟩ (Below.refl _ _)
      | 22, _ =>
       injection ho with ho
       subst ho
       clear hl
       simp only [fillA, List.take, List.drop, put_none, Act.put, List.setIfInBounds_toArray, List.set_cons_zero, List.set_cons_succ, Nat.reduceAdd]
       have f19 := hf 19 (by decide) (by kernel_rfl)
       generalize vals 19 = v19 at *
       subst f19
       have f21 := hf 21 (by decide) (by kernel_rfl)
       generalize vals 21 = v21 at *
       subst f21
       have f12 := hf 12 (by decide) (by kernel_rfl)
       generalize vals 12 = v12 at *
       subst f12
       clear hf
       go_wp2_with (fail)
       exact RQ.mk rfl ⟨(by first | rfl | (simp [FS27_6_28]; done) | (simp [FS27_6_28, *]; done) | (simp [FS27_6_28, gotV]; done) | (simp [FS27_6_28, gotV]; omega)), fun h => absurd h (by decide)⟩ (Below.refl _ _)
      | 23, _ =>
       injection ho with ho
       subst ho
       clear hl
       simp only [fillA, List.take, List.drop, put_none, Act.put, List.setIfInBounds_toArray, List.set_cons_zero, List.set_cons_succ, Nat.reduceAdd]
       have f12 := hf 12 (by decide) (by kernel_rfl)
       generalize vals 12 = v12 at *
       subst f12
       have f22 := hf 22 (by decide) (by kernel_rfl)
       generalize vals 22 = v22 at *
       subst f22
       have f9 := hf 9 (by decide) (by kernel_rfl)
       generalize vals 9 = v9 at *
       subst f9
       clear hf
       go_wp2_with (fail)
       exact RQ.mk rfl ⟨(by first | rfl | (simp [FS27_6_28]; done) | (simp [FS27_6_28, *]; done) | (simp [FS27_6_28, gotV]; done) | (simp [FS27_6_28, gotV]; omega)), fun h => absurd h (by decide)⟩ (Below.refl _ _)
      | 24, _ =>
       injection ho with ho
       subst ho
       clear hl
       simp only [fillA, List.take, List.drop, put_none, Act.put, List.setIfInBounds_toArray, List.set_cons_zero, List.set_cons_succ, Nat.reduceAdd]
       have f9 := hf 9 (by decide) (by kernel_rfl)
       generalize vals 9 = v9 at *
       subst f9
       have f23 := hf 23 (by decide) (by kernel_rfl)
       generalize vals 23 = v23 at *
       subst f23
       clear hf
       go_wp2_with (fail)
       exact RQ.mk rfl ⟨(by first | rfl | (simp [FS27_6_28]; done) | (simp [FS27_6_28, *]; done) | (simp [FS27_6_28, gotV]; done) | (simp [FS27_6_28, gotV]; omega)), fun h => absurd h (by decide)⟩ (Below.refl _ _)
      | m + 25, h => exact absurd h (by omega)
     ·intro vals w1 hb1 hf hd
      simp only [fillA, List.take, List.drop, put_none, Act.put, List.setIfInBounds_toArray, List.set_cons_zero, List.set_cons_succ, Nat.reduceAdd]
      clear hd
      have f0 := hf 0 (by decide)
      generalize vals 0 = v0 at *
      subst f0
      have f1 := hf 1 (by decide)
      generalize vals 1 = v1 at *
      subst f1
      have f2 := hf 2 (by decide)
      generalize vals 2 = v2 at *
      subst f2
      have f3 := hf 3 (by decide)
      generalize vals 3 = v3 at *
      subst f3
      have f4 := hf 4 (by decide)
      generalize vals 4 = v4 at *
      subst f4
      have f5 := hf 5 (by decide)
      generalize vals 5 = v5 at *
      subst f5
      have f6 := hf 6 (by decide)
      generalize vals 6 = v6 at *
      subst f6
      have f7 := hf 7 (by decide)
      generalize vals 7 = v7 at *
      subst f7
      have f8 := hf 8 (by decide)
      generalize vals 8 = v8 at *
      subst f8
      have f9 := hf 9 (by decide)
      generalize vals 9 = v9 at *
      subst f9
      have f10 := hf 10 (by decide)
      generalize vals 10 = v10 at *
      subst f10
      have f11 := hf 11 (by decide)
      generalize vals 11 = v11 at *
      subst f11
      have f12 := hf 12 (by decide)
      generalize vals 12 = v12 at *
      subst f12
      have f13 := hf 13 (by decide)
      generalize vals 13 = v13 at *
      subst f13
      have f14 := hf 14 (by decide)
      generalize vals 14 = v14 at *
      subst f14
      have f15 := hf 15 (by decide)
      generalize vals 15 = v15 at *
      subst f15
      have f16 := hf 16 (by decide)
      generalize vals 16 = v16 at *
      subst f16
      have f17 := hf 17 (by decide)
      generalize vals 17 = v17 at *
      subst f17
      have f18 := hf 18 (by decide)
      generalize vals 18 = v18 at *
      subst f18
      have f19 := hf 19 (by decide)
      generalize vals 19 = v19 at *
      subst f19
      have f20 := hf 20 (by decide)
      generalize vals 20 = v20 at *
      subst f20
      have f21 := hf 21 (by decide)
      generalize vals 21 = v21 at *
      subst f21
      have f22 := hf 22 (by decide)
      generalize vals 22 = v22 at *
      subst f22
      have f23 := hf 23 (by decide)
      generalize vals 23 = v23 at *
      subst f23
      have f24 := hf 24 (by decide)
      generalize vals 24 = v24 at *
      subst f24
      clear hf
      have hc1 := cellOf hb1
      have hf1 := frozOf hb1
      have hz1 := sizeOf hb1
      try simp at hz1
      go_wp2_with (fail)
      go_roundw
      case rel =>
       refine ⟨1, by omega, by go_num, fun j hj => ?_, ?_, ?_, ?_, ?_, by (repeat' (first | exact Below.refl _ _ | assumption | refine Below.setCell ?_ ?_ _ | refine Below.drew ?_ | refine Below.alloc ?_ ?_ _ | refine Below.trans ?_ (Below.mono (by assumption) ?_) | (simp; done) | (simp; omega) | omega))⟩
       ·obtain rfl : j = 0 := by omega
        rw [HV.out, HG.out]
       all_goals first | (simp [go_sem, ↓IntWalk.iteOmega, *]; done) | (simp [go_sem, ↓IntWalk.iteOmega, *]; omega) | omega
      case measure => simp [intOf]; omega
    ·have HG : Hid (mayB d xs x = false) := by show _ = _; simpa using hg
     clear hg
     have hg := HG.out
     go_wp2_with (fail)
     refine wp_region_w (n := 25) [] [] (FS27_6_29 d A xs x x bx ox 0 xs.length pl.length cap capp w) rfl (by kernel_rfl) (fun _ _ d _ _ h => by cases d <;> exact h) ?_ ?_ ?_ ?_ ?_ ?_
     ·intro iq
      match iq with
      | 0 | 1 | 2 | 3 | 4 | 5 | 6 | 7 | 8 | 9 | 10 | 11 | 12 | 13 | 14 | 15 | 16 | 17 | 18 | 19 | 20 | 21 | 22 | 23 | 24 => exact Stable.const _
      | n + 25 => exact Stable.const _
     ·intro iq hi
      exact absurd hi (by simp)
     ·intro iq hi
      exact absurd hi (by simp)
     ·intro iq o hi hl ho vals w1 hb1 hf
      exact absurd hl (by simp)
     ·intro iq o hi hl ho vals w1 hb1 hf
      match iq, hi with
      | 0, _ =>
       injection ho with ho
       subst ho
       clear hl
       simp only [fillA, List.take, List.drop, put_none, Act.put, List.setIfInBounds_toArray, List.set_cons_zero, List.set_cons_succ, Nat.reduceAdd]
       clear hf
       go_wp2_with (fail)
       exact RQ.mk rfl ⟨(by first | rfl | (simp [FS27_6_29]; done) | (simp [FS27_6_29, *]; done) | (simp [FS27_6_29, gotV]; done) | (simp [FS27_6_29, gotV]; omega)), fun h => absurd h (by decide)⟩ (Below.refl _ _)
      | 1, _ =>
       injection ho with ho
       subst ho
       clear hl
       simp only [fillA, List.take, List.drop, put_none, Act.put, List.setIfInBounds_toArray, List.set_cons_zero, List.set_cons_succ, Nat.reduceAdd]
       have f0 := hf 0 (by decide) (by kernel_rfl)
       generalize vals 0 = v0 at *
       subst f0
       clear hf
       have hc1 := cellOf hb1
       have hf1 := frozOf hb1
       have hz1 := sizeOf hb1
       try simp at hz1
       go_wp2_with (first | (go_at_call 57; refine (c_impl_isMinute _ _ ).mono ?_; rintro e w' ⟨rfl, hb⟩; have hc := cellOf hb; have hf := frozOf hb; have hz := sizeOf hb; try simp at hz))
       exact RQ.mk rfl ⟨(by first | rfl | (simp [FS27_6_29]; done) | (simp [FS27_6_29, *]; done) | (simp [FS27_6_29, gotV]; done) | (simp [FS27_6_29, gotV]; omega)), fun h => absurd h (by decide)⟩ (by (repeat' (first | exact Below.refl _ _ | assumption | refine Below.setCell ?_ ?_ _ | refine Below.drew ?_ | refine Below.alloc ?_ ?_ _ | refine Below.trans ?_ (Below.mono (by assumption) ?_) | (simp; done) | (simp; omega) | omega)))
      | 2, _ =>
       injection ho with ho
       subst ho
       clear hl
       simp only [fillA, List.take, List.drop, put_none, Act.put, List.setIfInBounds_toArray, List.set_cons_zero, List.set_cons_succ, Nat.reduceAdd]
       have f1 := hf 1 (by decide) (by kernel_rfl)
       generalize vals 1 = v1 at *
       subst f1
       clear hf
       go_wp2_with (fail)
       exact RQ.mk rfl ⟨(by first | rfl | (simp [FS27_6_29]; done) | (simp [FS27_6_29, *]; done) | (simp [FS27_6_29, gotV]; done) | (simp [FS27_6_29, gotV]; omega)), fun h => absurd h (by decide)⟩ (Below.refl _ _)
      | 3, _ =>
       injection ho with ho
       subst ho
       clear hl
       simp only [fillA, List.take, List.drop, put_none, Act.put, List.setIfInBounds_toArray, List.set_cons_zero, List.set_cons_succ, Nat.reduceAdd]
       have f2 := hf 2 (by decide) (by kernel_rfl)
       generalize vals 2 = v2 at *
       subst f2
       have f1 := hf 1 (by decide) (by kernel_rfl)
       generalize vals 1 = v1 at *
       subst f1
       clear hf
       go_wp2_with (fail)
       exact RQ.mk rfl ⟨(by first | rfl | (simp [FS27_6_29]; done) | (simp [FS27_6_29, *]; done) | (simp [FS27_6_29, gotV]; done) | (simp [FS27_6_29, gotV]; omega)), fun h => absurd h (by decide)⟩ (Below.refl _ _)
      | 4, _ =>
       injection ho with ho
       subst ho
       clear hl
       simp only [fillA, List.take, List.drop, put_none, Act.put, List.setIfInBounds_toArray, List.set_cons_zero, List.set_cons_succ, Nat.reduceAdd]
       have f3 := hf 3 (by decide) (by kernel_rfl)
       generalize vals 3 = v3 at *
       subst f3
       clear hf
       have hc1 := cellOf hb1
       have hf1 := frozOf hb1
       have hz1 := sizeOf hb1
       try simp at hz1
       go_wp2_with (fail)
       exact RQ.mk rfl ⟨(by first | rfl | (simp [FS27_6_29]; done) | (simp [FS27_6_29, *]; done) | (simp [FS27_6_29, gotV]; done) | (simp [FS27_6_29, gotV]; omega)), fun h => absurd h (by decide)⟩ (Below.refl _ _)
      | 5, _ =>
       injection ho with ho
       subst ho
       clear hl
       simp only [fillA, List.take, List.drop, put_none, Act.put, List.setIfInBounds_toArray, List.set_cons_zero, List.set_cons_succ, Nat.reduceAdd]
       have f3 := hf 3 (by decide) (by kernel_rfl)
       generalize vals 3 = v3 at *
       subst f3
       clear hf
       go_wp2_with (fail)
       exact RQ.mk rfl ⟨(by first | rfl | (simp [FS27_6_29]; done) | (simp [FS27_6_29, *]; done) | (simp [FS27_6_29, gotV]; done) | (simp [FS27_6_29, gotV]; omega)), fun h => absurd h (by decide)⟩ (Below.refl _ _)
      | 6, _ =>
       injection ho with ho
       subst ho
       clear hl
       simp only [fillA, List.take, List.drop, put_none, Act.put, List.setIfInBounds_toArray, List.set_cons_zero, List.set_cons_succ, Nat.reduceAdd]
       have f4 := hf 4 (by decide) (by kernel_rfl)
       generalize vals 4 = v4 at *
       subst f4
       have f5 := hf 5 (by decide) (by kernel_rfl)
       generalize vals 5 = v5 at *
       subst f5
       have f3 := hf 3 (by decide) (by kernel_rfl)
       generalize vals 3 = v3 at *
       subst f3
       clear hf
       have hc1 := cellOf hb1
       have hf1 := frozOf hb1
       have hz1 := sizeOf hb1
       try simp at hz1
       go_wp2_with (first | (go_at_call 58; refine (c_impl_mayOpen _ _ _ _ _ _ _ (by first | assumption | exact Rds.below hx (by (repeat' (first | exact Below.refl _ _ | assumption | refine Below.setCell ?_ ?_ _ | refine Below.drew ?_ | refine Below.alloc ?_ ?_ _ | refine Below.trans ?_ (Below.mono (by assumption) ?_) | (simp; done) | (simp; omega) | omega)))) rfl (by omega) hok (by omega) (by omega)).mono ?_; rintro e w' ⟨rfl, hb⟩; have hc := cellOf hb; have hf := frozOf hb; have hz := sizeOf hb; try simp at hz))
       exact RQ.mk rfl ⟨(by first | rfl | (simp [FS27_6_29]; done) | (simp [FS27_6_29, *]; done) | (simp [FS27_6_29, gotV]; done) | (simp [FS27_6_29, gotV]; omega)), fun h => absurd h (by decide)⟩ (by (repeat' (first | exact Below.refl _ _ | assumption | refine Below.setCell ?_ ?_ _ | refine Below.drew ?_ | refine Below.alloc ?_ ?_ _ | refine Below.trans ?_ (Below.mono (by assumption) ?_) | (simp; done) | (simp; omega) | omega)))
      | 7, _ =>
       injection ho with ho
       subst ho
       clear hl
       simp only [fillA, List.take, List.drop, put_none, Act.put, List.setIfInBounds_toArray, List.set_cons_zero, List.set_cons_succ, Nat.reduceAdd]
       have f6 := hf 6 (by decide) (by kernel_rfl)
       generalize vals 6 = v6 at *
       subst f6
       have f3 := hf 3 (by decide) (by kernel_rfl)
       generalize vals 3 = v3 at *
       subst f3
       clear hf
       go_wp2_with (fail)
       exact RQ.mk rfl ⟨(by first | rfl | (simp [FS27_6_29]; done) | (simp [FS27_6_29, *]; done) | (simp [FS27_6_29, gotV]; done) | (simp [FS27_6_29, gotV]; omega)), fun h => absurd h (by decide)⟩ (Below.refl _ _)
      | 8, _ =>
       injection ho with ho
       subst ho
       clear hl
       simp only [fillA, List.take, List.drop, put_none, Act.put, List.setIfInBounds_toArray, List.set_cons_zero, List.set_cons_succ, Nat.reduceAdd]
       have f3 := hf 3 (by decide) (by kernel_rfl)
       generalize vals 3 = v3 at *
       subst f3
       have f7 := hf 7 (by decide) (by kernel_rfl)
       generalize vals 7 = v7 at *
       subst f7
       clear hf
       go_wp2_with (fail)
       exact RQ.mk rfl ⟨(by first | rfl | (simp [FS27_6_29]; done) | (simp [FS27_6_29, *]; done) | (simp [FS27_6_29, gotV]; done) | (simp [FS27_6_29, gotV]; omega)), fun h => absurd h (by decide)⟩ (Below.refl _ _)
      | 9, _ =>
       injection ho with ho
       subst ho
       clear hl
       simp only [fillA, List.take, List.drop, put_none, Act.put, List.setIfInBounds_toArray, List.set_cons_zero, List.set_cons_succ, Nat.reduceAdd]
       have f8 := hf 8 (by decide) (by kernel_rfl)
       generalize vals 8 = v8 at *
       subst f8
       have f6 := hf 6 (by decide) (by kernel_rfl)
       generalize vals 6 = v6 at *
       subst f6
       clear hf
       go_wp2_with (fail)
       exact RQ.mk rfl ⟨(by first | rfl | (simp [FS27_6_29]; done) | (simp [FS27_6_29, *]; done) | (simp [FS27_6_29, gotV]; done) | (simp [FS27_6_29, gotV]; omega)), fun h => absurd h (by decide)⟩ (Below.refl _ _)
      | 10, _ =>
       injection ho with ho
       subst ho
       clear hl
       simp only [fillA, List.take, List.drop, put_none, Act.put, List.setIfInBounds_toArray, List.set_cons_zero, List.set_cons_succ, Nat.reduceAdd]
       have f9 := hf 9 (by decide) (by kernel_rfl)
       generalize vals 9 = v9 at *
       subst f9
       clear hf
       go_wp2_with (fail)
       exact RQ.mk rfl ⟨(by first | rfl | (simp [FS27_6_29]; done) | (simp [FS27_6_29, *]; done) | (simp [FS27_6_29, gotV]; done) | (simp [FS27_6_29, gotV]; omega)), fun h => absurd h (by decide)⟩ (Below.refl _ _)
      | 11, _ =>
       injection ho with ho
       subst ho
       clear hl
       simp only [fillA, List.take, List.drop, put_none, Act.put, List.setIfInBounds_toArray, List.set_cons_zero, List.set_cons_succ, Nat.reduceAdd]
       have f10 := hf 10 (by decide) (by kernel_rfl)
       generalize vals 10 = v10 at *
       subst f10
       have f9 := hf 9 (by decide) (by kernel_rfl)
       generalize vals 9 = v9 at *
       subst f9
       clear hf
       go_wp2_with (fail)
       exact RQ.mk rfl ⟨(by first | rfl | (simp [FS27_6_29]; done) | (simp [FS27_6_29, *]; done) | (simp [FS27_6_29, gotV]; done) | (simp [FS27_6_29, gotV]; omega)), fun h => absurd h (by decide)⟩ (Below.refl _ _)
      | 12, _ =>
       injection ho with ho
       subst ho
       clear hl
       simp only [fillA, List.take, List.drop, put_none, Act.put, List.setIfInBounds_toArray, List.set_cons_zero, List.set_cons_succ, Nat.reduceAdd]
       have f11 := hf 11 (by decide) (by kernel_rfl)
       generalize vals 11 = v11 at *
       subst f11
       have f9 := hf 9 (by decide) (by kernel_rfl)
       generalize vals 9 = v9 at *
       subst f9
       clear hf
       go_wp2_with (fail)
       exact RQ.mk rfl ⟨(by first | rfl | (simp [FS27_6_29]; done) | (simp [FS27_6_29, *]; done) | (simp [FS27_6_29, gotV]; done) | (simp [FS27_6_29, gotV]; omega)), fun h => absurd h (by decide)⟩ (Below.refl _ _)
      | 13, _ =>
       injection ho with ho
       subst ho
       clear hl
       simp only [fillA, List.take, List.drop, put_none, Act.put, List.setIfInBounds_toArray, List.set_cons_zero, List.set_cons_succ, Nat.reduceAdd]
       have f12 := hf 12 (by decide) (by kernel_rfl)
       generalize vals 12 = v12 at *
       subst f12
       clear hf
       go_wp2_with (fail)
       exact RQ.mk rfl ⟨(by first | rfl | (simp [FS27_6_29]; done) | (simp [FS27_6_29, *]; done) | (simp [FS27_6_29, gotV]; done) | (simp [FS27_6_29, gotV]; omega)), fun h => absurd h (by decide)⟩ (Below.refl _ _)
      | 14, _ =>
       injection ho with ho
       subst ho
       clear hl
       simp only [fillA, List.take, List.drop, put_none, Act.put, List.setIfInBounds_toArray, List.set_cons_zero, List.set_cons_succ, Nat.reduceAdd]
       have f12 := hf 12 (by decide) (by kernel_rfl)
       generalize vals 12 = v12 at *
       subst f12
       clear hf
       go_wp2_with (fail)
       exact RQ.mk rfl ⟨(by first | rfl | (simp [FS27_6_29]; done) | (simp [FS27_6_29, *]; done) | (simp [FS27_6_29, gotV]; done) | (simp [FS27_6_29, gotV]; omega)), fun h => absurd h (by decide)⟩ (Below.refl _ _)
      | 15, _ =>
       injection ho with ho
       subst ho
       clear hl
       simp only [fillA, List.take, List.drop, put_none, Act.put, List.setIfInBounds_toArray, List.set_cons_zero, List.set_cons_succ, Nat.reduceAdd]
       have f12 := hf 12 (by decide) (by kernel_rfl)
       generalize vals 12 = v12 at *
       subst f12
       clear hf
       go_wp2_with (fail)
       exact RQ.mk rfl ⟨(by first | rfl | (simp [FS27_6_29]; done) | (simp [FS27_6_29, *]; done) | (simp [FS27_6_29, gotV]; done) | (simp [FS27_6_29, gotV]; omega)), fun h => absurd h (by decide)⟩ (Below.refl _ _)
      | 16, _ =>
       injection ho with ho
       subst ho
       clear hl
       simp only [fillA, List.take, List.drop, put_none, Act.put, List.setIfInBounds_toArray, List.set_cons_zero, List.set_cons_succ, Nat.reduceAdd]
       have f15 := hf 15 (by decide) (by kernel_rfl)
       generalize vals 15 = v15 at *
       subst f15
       have f12 := hf 12 (by decide) (by kernel_rfl)
       generalize vals 12 = v12 at *
       subst f12
       clear hf
       go_wp2_with (fail)
       exact RQ.mk rfl ⟨(by first | rfl | (simp [FS27_6_29]; done) | (simp [FS27_6_29, *]; done) | (simp [FS27_6_29, gotV]; done) | (simp [FS27_6_29, gotV]; omega)), fun h => absurd h (by decide)⟩ (Below.refl _ _)
      | 17, _ =>
       injection ho with ho
       subst ho
       clear hl
       simp only [fillA, List.take, List.drop, put_none, Act.put, List.setIfInBounds_toArray, List.set_cons_zero, List.set_cons_succ, Nat.reduceAdd]
       have f14 := hf 14 (by decide) (by kernel_rfl)
       generalize vals 14 = v14 at *
       subst f14
       have f16 := hf 16 (by decide) (by kernel_rfl)
       generalize vals 16 = v16 at *
       subst f16
       have f12 := hf 12 (by decide) (by kernel_rfl)
       generalize vals 12 = v12 at *
       subst f12
       clear hf
       go_wp2_with (fail)
       exact RQ.mk rfl ⟨(by first | rfl | (simp [FS27_6_29]; done) | (simp [FS27_6_29, *]; done) | (simp [FS27_6_29, gotV]; done) | (simp [FS27_6_29, gotV]; omega)), fun h => absurd h (by decide)⟩ (Below.refl _ _)
      | 18, _ =>
       injection ho with ho
       subst ho
       clear hl
       simp only [fillA, List.take, List.drop, put_none, Act.put, List.setIfInBounds_toArray, List.set_cons_zero, List.set_cons_succ, Nat.reduceAdd]
       have f17 := hf 17 (by decide) (by kernel_rfl)
       generalize vals 17 = v17 at *
       subst f17
       have f12 := hf 12 (by decide) (by kernel_rfl)
       generalize vals 12 = v12 at *
       subst f12
       clear hf
       go_wp2_with (fail)
       exact RQ.mk rfl ⟨(by first | rfl | (simp [FS27_6_29]; done) | (simp [FS27_6_29, *]; done) | (simp [FS27_6_29, gotV]; done) | (simp [FS27_6_29, gotV]; omega)), fun h => absurd h (by decide)⟩ (Below.refl _ _)
      | 19, _ =>
       injection ho with ho
       subst ho
       clear hl
       simp only [fillA, List.take, List.drop, put_none, Act.put, List.setIfInBounds_toArray, List.set_cons_zero, List.set_cons_succ, Nat.reduceAdd]
       have f13 := hf 13 (by decide) (by kernel_rfl)
       generalize vals 13 = v13 at *
       subst f13
       have f18 := hf 18 (by decide) (by kernel_rfl)
       generalize vals 18 = v18 at *
       subst f18
       have f12 := hf 12 (by decide) (by kernel_rfl)
       generalize vals 12 = v12 at *
       subst f12
       clear hf
       go_wp2_with (fail)
       exact RQ.mk rfl ⟨(by first | rfl | (simp [FS27_6_29]; done) | (simp [FS27_6_29, *]; done) | (simp [FS27_6_29, gotV]; done) | (simp [FS27_6_29, gotV]; omega)), fun h => absurd h (by decide)⟩ (Below.refl _ _)
      | 20, _ =>
       injection ho with ho
       subst ho
       clear hl
       simp only [fillA, List.take, List.drop, put_none, Act.put, List.setIfInBounds_toArray, List.set_cons_zero, List.set_cons_succ, Nat.reduceAdd]
       have f12 := hf 12 (by decide) (by kernel_rfl)
       generalize vals 12 = v12 at *
       subst f12
       clear hf
       go_wp2_with (fail)
       exact RQ.mk rfl ⟨(by first | rfl | (simp [FS27_6_29]; done) | (simp [FS27_6_29, *]; done) | (simp [FS27_6_29, gotV]; done) | (simp [FS27_6_29, gotV]; omega)), fun h => absurd h (by decide)⟩ (Below.refl _ _)
      | 21, _ =>
       injection ho with ho
       subst ho
       clear hl
       simp only [fillA, List.take, List.drop, put_none, Act.put, List.setIfInBounds_toArray, List.set_cons_zero, List.set_cons_succ, Nat.reduceAdd]
       have f20 := hf 20 (by decide) (by kernel_rfl)
       generalize vals 20 = v20 at *
       subst f20
       have f12 := hf 12 (by decide) (by kernel_rfl)
       generalize vals 12 = v12 at *
       subst f12
       clear hf
       go_wp2_with (fail)
       exact RQ.mk rfl ⟨(by first | rfl | (simp [FS27_6_29]; done) | (simp [FS27_6_29, *]; done) | (simp [FS27_6_29, gotV]; done) | (simp [FS27_6_29, gotV]; omega)), fun h => absurd h (by decide)⟩ (Below.refl _ _)
      | 22, _ =>
       injection ho with ho
       subst ho
       clear hl
       simp only [fillA, List.take, List.drop, put_none, Act.put, List.setIfInBounds_toArray, List.set_cons_zero, List.set_cons_succ, Nat.reduceAdd]
       have f19 := hf 19 (by decide) (by kernel_rfl)
       generalize vals 19 = v19 at *
       subst f19
       have f21 := hf 21 (by decide) (by kernel_rfl)
       generalize vals 21 = v21 at *
       subst f21
       have f12 := hf 12 (by decide) (by kernel_rfl)
       generalize vals 12 = v12 at *
       subst f12
       clear hf
       go_wp2_with (fail)
       exact RQ.mk rfl ⟨(by first | rfl | (simp [FS27_6_29]; done) | (simp [FS27_6_29, *]; done) | (simp [FS27_6_29, gotV]; done) | (simp [FS27_6_29, gotV]; omega)), fun h => absurd h (by decide)⟩ (Below.refl _ _)
      | 23, _ =>
       injection ho with ho
       subst ho
       clear hl
       simp only [fillA, List.take, List.drop, put_none, Act.put, List.setIfInBounds_toArray, List.set_cons_zero, List.set_cons_succ, Nat.reduceAdd]
       have f12 := hf 12 (by decide) (by kernel_rfl)
       generalize vals 12 = v12 at *
       subst f12
       have f22 := hf 22 (by decide) (by kernel_rfl)
       generalize vals 22 = v22 at *
       subst f22
       have f9 := hf 9 (by decide) (by kernel_rfl)
       generalize vals 9 = v9 at *
       subst f9
       clear hf
       go_wp2_with (fail)
       exact RQ.mk rfl ⟨(by first | rfl | (simp [FS27_6_29]; done) | (simp [FS27_6_29, *]; done) | (simp [FS27_6_29, gotV]; done) | (simp [FS27_6_29, gotV]; omega)), fun h => absurd h (by decide)⟩ (Below.refl _ _)
      | 24, _ =>
       injection ho with ho
       subst ho
       clear hl
       simp only [fillA, List.take, List.drop, put_none, Act.put, List.setIfInBounds_toArray, List.set_cons_zero, List.set_cons_succ, Nat.reduceAdd]
       have f9 := hf 9 (by decide) (by kernel_rfl)
       generalize vals 9 = v9 at *
       subst f9
       have f23 := hf 23 (by decide) (by kernel_rfl)
       generalize vals 23 = v23 at *
       subst f23
       clear hf
       go_wp2_with (fail)
       exact RQ.mk rfl ⟨(by first | rfl | (simp [FS27_6_29]; done) | (simp [FS27_6_29, *]; done) | (simp [FS27_6_29, gotV]; done) | (simp [FS27_6_29, gotV]; omega)), fun h => absurd h (by decide)⟩ (Below.refl _ _)
      | m + 25, h => exact absurd h (by omega)
     ·intro vals w1 hb1 hf hd
      simp only [fillA, List.take, List.drop, put_none, Act.put, List.setIfInBounds_toArray, List.set_cons_zero, List.set_cons_succ, Nat.reduceAdd]
      clear hd
      have f0 := hf 0 (by decide)
      generalize vals 0 = v0 at *
      subst f0
      have f1 := hf 1 (by decide)
      generalize vals 1 = v1 at *
      subst f1
      have f2 := hf 2 (by decide)
      generalize vals 2 = v2 at *
      subst f2
      have f3 := hf 3 (by decide)
      generalize vals 3 = v3 at *
      subst f3
      have f4 := hf 4 (by decide)
      generalize vals 4 = v4 at *
      subst f4
      have f5 := hf 5 (by decide)
      generalize vals 5 = v5 at *
      subst f5
      have f6 := hf 6 (by decide)
      generalize vals 6 = v6 at *
      subst f6
      have f7 := hf 7 (by decide)
      generalize vals 7 = v7 at *
      subst f7
      have f8 := hf 8 (by decide)
      generalize vals 8 = v8 at *
      subst f8
      have f9 := hf 9 (by decide)
      generalize vals 9 = v9 at *
      subst f9
      have f10 := hf 10 (by decide)
      generalize vals 10 = v10 at *
      subst f10
      have f11 := hf 11 (by decide)
      generalize vals 11 = v11 at *
      subst f11
      have f12 := hf 12 (by decide)
      generalize vals 12 = v12 at *
      subst f12
      have f13 := hf 13 (by decide)
      generalize vals 13 = v13 at *
      subst f13
      have f14 := hf 14 (by decide)
      generalize vals 14 = v14 at *
      subst f14
      have f15 := hf 15 (by decide)
      generalize vals 15 = v15 at *
      subst f15
      have f16 := hf 16 (by decide)
      generalize vals 16 = v16 at *
      subst f16
      have f17 := hf 17 (by decide)
      generalize vals 17 = v17 at *
      subst f17
      have f18 := hf 18 (by decide)
      generalize vals 18 = v18 at *
      subst f18
      have f19 := hf 19 (by decide)
      generalize vals 19 = v19 at *
      subst f19
      have f20 := hf 20 (by decide)
      generalize vals 20 = v20 at *
      subst f20
      have f21 := hf 21 (by decide)
      generalize vals 21 = v21 at *
      subst f21
      have f22 := hf 22 (by decide)
      generalize vals 22 = v22 at *
      subst f22
      have f23 := hf 23 (by decide)
      generalize vals 23 = v23 at *
      subst f23
      have f24 := hf 24 (by decide)
      generalize vals 24 = v24 at *
      subst f24
      clear hf
      have hc1 := cellOf hb1
      have hf1 := frozOf hb1
      have hz1 := sizeOf hb1
      try simp at hz1
      go_wp2_with (fail)
      go_ret
      exact ⟨ret_bool (by rw [HB.out (by rw [HV.out, HG.out])]), by (repeat' (first | exact Below.refl _ _ | assumption | refine Below.setCell ?_ ?_ _ | refine Below.drew ?_ | refine Below.alloc ?_ ?_ _ | refine Below.trans ?_ (Below.mono (by assumption) ?_) | (simp; done) | (simp; omega) | omega))⟩
   | succ k =>
    have HV := hid (vAt_succ (good := mayB d xs) (lt := gapLe d) k hlt)
    have hlt' : k < pl.length := by omega
    have hx0 := hcx (k + 1) hlt 0 _ rfl
    have hy0 := hcx k hlt' 0 _ rfl
    simp only [Nat.add_zero, Nat.mul_one] at hx0 hy0
    have hyb : 0 ≤ pl[k] ∧ pl[k] ≤ 9999 := by
     have h := HL.out k (by omega)
     rw [vAt_split _ _ _ _ hlt', Bool.and_eq_true] at h
     have := mayB_bd h.1
     omega
    clear hcx
    generalize pl[k + 1] = x at *
    generalize pl[k] = y at *
    by_cases hm : minB x = true
    rotate_left
    ·have hmf : minB x = false := by simpa using hm
     have HG := hid (mayB_min (d := d) (xs := xs) hdb.1 hmf)
     clear hm
     go_wp2_with (fail)
     refine wp_region_w (n := 25) [] [] (FS27_6_30 d A xs x y bx ox k xs.length pl.length cap capp w) rfl (by kernel_rfl) (fun _ _ d _ _ h => by cases d <;> exact h) ?_ ?_ ?_ ?_ ?_ ?_
     ·intro iq
      match iq with
      | 0 | 1 | 2 | 3 | 4 | 5 | 6 | 7 | 8 | 9 | 10 | 11 | 12 | 13 | 14 | 15 | 16 | 17 | 18 | 19 | 20 | 21 | 22 | 23 | 24 => exact Stable.const _
      | n + 25 => exact Stable.const _
     ·intro iq hi
      exact absurd hi (by simp)
     ·intro iq hi
      exact absurd hi (by simp)
     ·intro iq o hi hl ho vals w1 hb1 hf
      exact absurd hl (by simp)
     ·intro iq o hi hl ho vals w1 hb1 hf
      match iq, hi with
      | 0, _ =>
       injection ho with ho
       subst ho
       clear hl
       simp only [fillA, List.take, List.drop, put_none, Act.put, List.setIfInBounds_toArray, List.set_cons_zero, List.set_cons_succ, Nat.reduceAdd]
       clear hf
       go_wp2_with (fail)
       exact RQ.mk rfl ⟨(by first | rfl | (simp [FS27_6_30]; done) | (simp [FS27_6_30, *]; done) | (simp [FS27_6_30, gotV]; done) | (simp [FS27_6_30, gotV]; omega)), fun h => absurd h (by decide)⟩ (Below.refl _ _)
      | 1, _ =>
       injection ho with ho
       subst ho
       clear hl
       simp only [fillA, List.take, List.drop, put_none, Act.put, List.setIfInBounds_toArray, List.set_cons_zero, List.set_cons_succ, Nat.reduceAdd]
       have f0 := hf 0 (by decide) (by kernel_rfl)
       generalize vals 0 = v0 at *
       subst f0
       clear hf
       have hc1 := cellOf hb1
       have hf1 := frozOf hb1
       have hz1 := sizeOf hb1
       try simp at hz1
       go_wp2_with (first | (go_at_call 57; refine (c_impl_isMinute _ _ ).mono ?_; rintro e w' ⟨rfl, hb⟩; have hc := cellOf hb; have hf := frozOf hb; have hz := sizeOf hb; try simp at hz))
       exact RQ.mk rfl ⟨(by first | rfl | (simp [FS27_6_30]; done) | (simp [FS27_6_30, *]; done) | (simp [FS27_6_30, gotV]; done) | (simp [FS27_6_30, gotV]; omega)), fun h => absurd h (by decide)⟩ (by (repeat' (first | exact Below.refl _ _ | assumption | refine Below.setCell ?_ ?_ _ | refine Below.drew ?_ | refine Below.alloc ?_ ?_ _ | refine Below.trans ?_ (Below.mono (by assumption) ?_) | (simp; done) | (simp; omega) | omega)))
      | 2, _ =>
       injection ho with ho
       subst ho
       clear hl
       simp only [fillA, List.take, List.drop, put_none, Act.put, List.setIfInBounds_toArray, List.set_cons_zero, List.set_cons_succ, Nat.reduceAdd]
       have f1 := hf 1 (by decide) (by kernel_rfl)
       generalize vals 1 = v1 at *
       subst f1
       clear hf
       go_wp2_with (fail)
       exact RQ.mk rfl ⟨(by first | rfl | (simp [FS27_6_30]; done) | (simp [FS27_6_30, *]; done) | (simp [FS27_6_30, gotV]; done) | (simp [FS27_6_30, gotV]; omega)), fun h => absurd h (by decide)⟩ (Below.refl _ _)
      | 3, _ =>
       injection ho with ho
       subst ho
       clear hl
       simp only [fillA, List.take, List.drop, put_none, Act.put, List.setIfInBounds_toArray, List.set_cons_zero, List.set_cons_succ, Nat.reduceAdd]
       have f2 := hf 2 (by decide) (by kernel_rfl)
       generalize vals 2 = v2 at *
       subst f2
       have f1 := hf 1 (by decide) (by kernel_rfl)
       generalize vals 1 = v1 at *
       subst f1
       clear hf
       go_wp2_with (fail)
       exact RQ.mk rfl ⟨(by first | rfl | (simp [FS27_6_30]; done) | (simp [FS27_6_30, *]; done) | (simp [FS27_6_30, gotV]; done) | (simp [FS27_6_30, gotV]; omega)), fun h => absurd h (by decide)⟩ (Below.refl _ _)
      | 4, _ =>
       injection ho with ho
       subst ho
       clear hl
       simp only [fillA, List.take, List.drop, put_none, Act.put, List.setIfInBounds_toArray, List.set_cons_zero, List.set_cons_succ, Nat.reduceAdd]
       have f3 := hf 3 (by decide) (by kernel_rfl)
       generalize vals 3 = v3 at *
       subst f3
       clear hf
       go_wp2_with (fail)
       exact RQ.mk rfl ⟨(by first | rfl | (simp [FS27_6_30]; done) | (simp [FS27_6_30, *]; done) | (simp [FS27_6_30, gotV]; done) | (simp [FS27_6_30, gotV]; omega)), fun h => absurd h (by decide)⟩ (Below.refl _ _)
      | 5, _ =>
       injection ho with ho
       subst ho
       clear hl
       simp only [fillA, List.take, List.drop, put_none, Act.put, List.setIfInBounds_toArray, List.set_cons_zero, List.set_cons_succ, Nat.reduceAdd]
       have f3 := hf 3 (by decide) (by kernel_rfl)
       generalize vals 3 = v3 at *
       subst f3
       clear hf
       go_wp2_with (fail)
       exact RQ.mk rfl ⟨(by first | rfl | (simp [FS27_6_30]; done) | (simp [FS27_6_30, *]; done) | (simp [FS27_6_30, gotV]; done) | (simp [FS27_6_30, gotV]; omega)), fun h => absurd h (by decide)⟩ (Below.refl _ _)
      | 6, _ =>
       injection ho with ho
       subst ho
       clear hl
       simp only [fillA, List.take, List.drop, put_none, Act.put, List.setIfInBounds_toArray, List.set_cons_zero, List.set_cons_succ, Nat.reduceAdd]
       have f4 := hf 4 (by decide) (by kernel_rfl)
       generalize vals 4 = v4 at *
       subst f4
       have f5 := hf 5 (by decide) (by kernel_rfl)
       generalize vals 5 = v5 at *
       subst f5
       have f3 := hf 3 (by decide) (by kernel_rfl)
       generalize vals 3 = v3 at *
       subst f3
       clear hf
       go_wp2_with (first | (go_at_call 58; refine (c_impl_mayOpen _ _ _ _ _ _ _ (by first | assumption | exact Rds.below hx (by (repeat' (first | exact Below.refl _ _ | assumption | refine Below.setCell ?_ ?_ _ | refine Below.drew ?_ | refine Below.alloc ?_ ?_ _ | refine Below.trans ?_ (Below.mono (by assumption) ?_) | (simp; done) | (simp; omega) | omega)))) rfl (by omega) hok (by omega) (by omega)).mono ?_; rintro e w' ⟨rfl, hb⟩; have hc := cellOf hb; have hf := frozOf hb; have hz := sizeOf hb; try simp at hz))
       exact RQ.mk rfl ⟨(by first | rfl | (simp [FS27_6_30]; done) | (simp [FS27_6_30, *]; done) | (simp [FS27_6_30, gotV]; done) | (simp [FS27_6_30, gotV]; omega)), fun h => absurd h (by decide)⟩ (Below.refl _ _)
      | 7, _ =>
       injection ho with ho
       subst ho
       clear hl
       simp only [fillA, List.take, List.drop, put_none, Act.put, List.setIfInBounds_toArray, List.set_cons_zero, List.set_cons_succ, Nat.reduceAdd]
       have f6 := hf 6 (by decide) (by kernel_rfl)
       generalize vals 6 = v6 at *
       subst f6
       have f3 := hf 3 (by decide) (by kernel_rfl)
       generalize vals 3 = v3 at *
       subst f3
       clear hf
       go_wp2_with (fail)
       exact RQ.mk rfl ⟨(by first | rfl | (simp [FS27_6_30]; done) | (simp [FS27_6_30, *]; done) | (simp [FS27_6_30, gotV]; done) | (simp [FS27_6_30, gotV]; omega)), fun h => absurd h (by decide)⟩ (Below.refl _ _)
      | 8, _ =>
       injection ho with ho
       subst ho
       clear hl
       simp only [fillA, List.take, List.drop, put_none, Act.put, List.setIfInBounds_toArray, List.set_cons_zero, List.set_cons_succ, Nat.reduceAdd]
       have f3 := hf 3 (by decide) (by kernel_rfl)
       generalize vals 3 = v3 at *
       subst f3
       have f7 := hf 7 (by decide) (by kernel_rfl)
       generalize vals 7 = v7 at *
       subst f7
       clear hf
       go_wp2_with (fail)
       exact RQ.mk rfl ⟨(by first | rfl | (simp [FS27_6_30]; done) | (simp [FS27_6_30, *]; done) | (simp [FS27_6_30, gotV]; done) | (simp [FS27_6_30, gotV]; omega)), fun h => absurd h (by decide)⟩ (Below.refl _ _)
      | 9, _ =>
       injection ho with ho
       subst ho
       clear hl
       simp only [fillA, List.take, List.drop, put_none, Act.put, List.setIfInBounds_toArray, List.set_cons_zero, List.set_cons_succ, Nat.reduceAdd]
       have f8 := hf 8 (by decide) (by kernel_rfl)
       generalize vals 8 = v8 at *
       subst f8
       have f6 := hf 6 (by decide) (by kernel_rfl)
       generalize vals 6 = v6 at *
       subst f6
       clear hf
       go_wp2_with (fail)
       exact RQ.mk rfl ⟨(by first | rfl | (simp [FS27_6_30]; done) | (simp [FS27_6_30, *]; done) | (simp [FS27_6_30, gotV]; done) | (simp [FS27_6_30, gotV]; omega)), fun h => absurd h (by decide)⟩ (Below.refl _ _)
      | 10, _ =>
       injection ho with ho
       subst ho
       clear hl
       simp only [fillA, List.take, List.drop, put_none, Act.put, List.setIfInBounds_toArray, List.set_cons_zero, List.set_cons_succ, Nat.reduceAdd]
       have f9 := hf 9 (by decide) (by kernel_rfl)
       generalize vals 9 = v9 at *
       subst f9
       clear hf
       go_wp2_with (fail)
       exact RQ.mk rfl ⟨(by first | rfl | (simp [FS27_6_30]; done) | (simp [FS27_6_30, *]; done) | (simp [FS27_6_30, gotV]; done) | (simp [FS27_6_30, gotV]; omega)), fun h => absurd h (by decide)⟩ (Below.refl _ _)
      | 11, _ =>
       injection ho with ho
       subst ho
       clear hl
       simp only [fillA, List.take, List.drop, put_none, Act.put, List.setIfInBounds_toArray, List.set_cons_zero, List.set_cons_succ, Nat.reduceAdd]
       have f10 := hf 10 (by decide) (by kernel_rfl)
       generalize vals 10 = v10 at *
       subst f10
       have f9 := hf 9 (by decide) (by kernel_rfl)
       generalize vals 9 = v9 at *
       subst f9
       clear hf
       go_wp2_with (fail)
       exact RQ.mk rfl ⟨(by first | rfl | (simp [FS27_6_30]; done) | (simp [FS27_6_30, *]; done) | (simp [FS27_6_30, gotV]; done) | (simp [FS27_6_30, gotV]; omega)), fun h => absurd h (by decide)⟩ (Below.refl _ _)
      | 12, _ =>
       injection ho with ho
       subst ho
       clear hl
       simp only [fillA, List.take, List.drop, put_none, Act.put, List.setIfInBounds_toArray, List.set_cons_zero, List.set_cons_succ, Nat.reduceAdd]
       have f11 := hf 11 (by decide) (by kernel_rfl)
       generalize vals 11 = v11 at *
       subst f11
       have f9 := hf 9 (by decide) (by kernel_rfl)
       generalize vals 9 = v9 at *
       subst f9
       clear hf
       go_wp2_with (fail)
       exact RQ.mk rfl ⟨(by first | rfl | (simp [FS27_6_30]; done) | (simp [FS27_6_30, *]; done) | (simp [FS27_6_30, gotV]; done) | (simp [FS27_6_30, gotV]; omega)), fun h => absurd h (by decide)⟩ (Below.refl _ _)
      | 13, _ =>
       injection ho with ho
       subst ho
       clear hl
       simp only [fillA, List.take, List.drop, put_none, Act.put, List.setIfInBounds_toArray, List.set_cons_zero, List.set_cons_succ, Nat.reduceAdd]
       have f12 := hf 12 (by decide) (by kernel_rfl)
       generalize vals 12 = v12 at *
       subst f12
       clear hf
       go_wp2_with (fail)
       exact RQ.mk rfl ⟨(by first | rfl | (simp [FS27_6_30]; done) | (simp [FS27_6_30, *]; done) | (simp [FS27_6_30, gotV]; done) | (simp [FS27_6_30, gotV]; omega)), fun h => absurd h (by decide)⟩ (Below.refl _ _)
      | 14, _ =>
       injection ho with ho
       subst ho
       clear hl
       simp only [fillA, List.take, List.drop, put_none, Act.put, List.setIfInBounds_toArray, List.set_cons_zero, List.set_cons_succ, Nat.reduceAdd]
       have f12 := hf 12 (by decide) (by kernel_rfl)
       generalize vals 12 = v12 at *
       subst f12
       clear hf
       go_wp2_with (fail)
       exact RQ.mk rfl ⟨(by first | rfl | (simp [FS27_6_30]; done) | (simp [FS27_6_30, *]; done) | (simp [FS27_6_30, gotV]; done) | (simp [FS27_6_30, gotV]; omega)), fun h => absurd h (by decide)⟩ (Below.refl _ _)
      | 15, _ =>
       injection ho with ho
       subst ho
       clear hl
       simp only [fillA, List.take, List.drop, put_none, Act.put, List.setIfInBounds_toArray, List.set_cons_zero, List.set_cons_succ, Nat.reduceAdd]
       have f12 := hf 12 (by decide) (by kernel_rfl)
       generalize vals 12 = v12 at *
       subst f12
       clear hf
       go_wp2_with (fail)
       exact RQ.mk rfl ⟨(by first | rfl | (simp [FS27_6_30]; done) | (simp [FS27_6_30, *]; done) | (simp [FS27_6_30, gotV]; done) | (simp [FS27_6_30, gotV]; omega)), fun h => absurd h (by decide)⟩ (Below.refl _ _)
      | 16, _ =>
       injection ho with ho
       subst ho
       clear hl
       simp only [fillA, List.take, List.drop, put_none, Act.put, List.setIfInBounds_toArray, List.set_cons_zero, List.set_cons_succ, Nat.reduceAdd]
       have f15 := hf 15 (by decide) (by kernel_rfl)
       generalize vals 15 = v15 at *
       subst f15
       have f12 := hf 12 (by decide) (by kernel_rfl)
       generalize vals 12 = v12 at *
       subst f12
       clear hf
       go_wp2_with (fail)
       exact RQ.mk rfl ⟨(by first | rfl | (simp [FS27_6_30]; done) | (simp [FS27_6_30, *]; done) | (simp [FS27_6_30, gotV]; done) | (simp [FS27_6_30, gotV]; omega)), fun h => absurd h (by decide)⟩ (Below.refl _ _)
      | 17, _ =>
       injection ho with ho
       subst ho
       clear hl
       simp only [fillA, List.take, List.drop, put_none, Act.put, List.setIfInBounds_toArray, List.set_cons_zero, List.set_cons_succ, Nat.reduceAdd]
       have f14 := hf 14 (by decide) (by kernel_rfl)
       generalize vals 14 = v14 at *
       subst f14
       have f16 := hf 16 (by decide) (by kernel_rfl)
       generalize vals 16 = v16 at *
       subst f16
       have f12 := hf 12 (by decide) (by kernel_rfl)
       generalize vals 12 = v12 at *
       subst f12
       clear hf
       go_wp2_with (fail)
       exact RQ.mk rfl ⟨(by first | rfl | (simp [FS27_6_30]; done) | (simp [FS27_6_30, *]; done) | (simp [FS27_6_30, gotV]; done) | (simp [FS27_6_30, gotV]; omega)), fun h => absurd h (by decide)⟩ (Below.refl _ _)
      | 18, _ =>
       injection ho with ho
       subst ho
       clear hl
       simp only [fillA, List.take, List.drop, put_none, Act.put, List.setIfInBounds_toArray, List.set_cons_zero, List.set_cons_succ, Nat.reduceAdd]
       have f17 := hf 17 (by decide) (by kernel_rfl)
       generalize vals 17 = v17 at *
       subst f17
       have f12 := hf 12 (by decide) (by kernel_rfl)
       generalize vals 12 = v12 at *
       subst f12
       clear hf
       go_wp2_with (fail)
       exact RQ.mk rfl ⟨(by first | rfl | (simp [FS27_6_30]; done) | (simp [FS27_6_30, *]; done) | (simp [FS27_6_30, gotV]; done) | (simp [FS27_6_30, gotV]; omega)), fun h => absurd h (by decide)⟩ (Below.refl _ _)
      | 19, _ =>
       injection ho with ho
       subst ho
       clear hl
       simp only [fillA, List.take, List.drop, put_none, Act.put, List.setIfInBounds_toArray, List.set_cons_zero, List.set_cons_succ, Nat.reduceAdd]
       have f13 := hf 13 (by decide) (by kernel_rfl)
       generalize vals 13 = v13 at *
       subst f13
       have f18 := hf 18 (by decide) (by kernel_rfl)
       generalize vals 18 = v18 at *
       subst f18
       have f12 := hf 12 (by decide) (by kernel_rfl)
       generalize vals 12 = v12 at *
       subst f12
       clear hf
       go_wp2_with (fail)
       exact RQ.mk rfl ⟨(by first | rfl | (simp [FS27_6_30]; done) | (simp [FS27_6_30, *]; done) | (simp [FS27_6_30, gotV]; done) | (simp [FS27_6_30, gotV]; omega)), fun h => absurd h (by decide)⟩ (Below.refl _ _)
      | 20, _ =>
       injection ho with ho
       subst ho
       clear hl
       simp only [fillA, List.take, List.drop, put_none, Act.put, List.setIfInBounds_toArray, List.set_cons_zero, List.set_cons_succ, Nat.reduceAdd]
       have f12 := hf 12 (by decide) (by kernel_rfl)
       generalize vals 12 = v12 at *
       subst f12
       clear hf
       go_wp2_with (fail)
       exact RQ.mk rfl ⟨(by first | rfl | (simp [FS27_6_30]; done) | (simp [FS27_6_30, *]; done) | (simp [FS27_6_30, gotV]; done) | (simp [FS27_6_30, gotV]; omega)), fun h => absurd h (by decide)⟩ (Below.refl _ _)
      | 21, _ =>
       injection ho with ho
       subst ho
       clear hl
       simp only [fillA, List.take, List.drop, put_none, Act.put, List.setIfInBounds_toArray, List.set_cons_zero, List.set_cons_succ, Nat.reduceAdd]
       have f20 := hf 20 (by decide) (by kernel_rfl)
       generalize vals 20 = v20 at *
       subst f20
       have f12 := hf 12 (by decide) (by kernel_rfl)
       generalize vals 12 = v12 at *
       subst f12
       clear hf
       go_wp2_with (fail)
       exact RQ.mk rfl ⟨(by first | rfl | (simp [FS27_6_30]; done) | (simp [FS27_6_30, *]; done) | (simp [FS27_6_30, gotV]; done) | (simp [FS27_6_30, gotV]; omega)), fun h => absurd h (by decide)⟩ (Below.refl _ _)
      | 22, _ =>
       injection ho with ho
       subst ho
       clear hl
       simp only [fillA, List.take, List.drop, put_none, Act.put, List.setIfInBounds_toArray, List.set_cons_zero, List.set_cons_succ, Nat.reduceAdd]
       have f19 := hf 19 (by decide) (by kernel_rfl)
       generalize vals 19 = v19 at *
       subst f19
       have f21 := hf 21 (by decide) (by kernel_rfl)
       generalize vals 21 = v21 at *
       subst f21
       have f12 := hf 12 (by decide) (by kernel_rfl)
       generalize vals 12 = v12 at *
       subst f12
       clear hf
       go_wp2_with (fail)
       exact RQ.mk rfl ⟨(by first | rfl | (simp [FS27_6_30]; done) | (simp [FS27_6_30, *]; done) | (simp [FS27_6_30, gotV]; done) | (simp [FS27_6_30, gotV]; omega)), fun h => absurd h (by decide)⟩ (Below.refl _ _)
      | 23, _ =>
       injection ho with ho
       subst ho
       clear hl
       simp only [fillA, List.take, List.drop, put_none, Act.put, List.setIfInBounds_toArray, List.set_cons_zero, List.set_cons_succ, Nat.reduceAdd]
       have f12 := hf 12 (by decide) (by kernel_rfl)
       generalize vals 12 = v12 at *
       subst f12
       have f22 := hf 22 (by decide) (by kernel_rfl)
       generalize vals 22 = v22 at *
       subst f22
       have f9 := hf 9 (by decide) (by kernel_rfl)
       generalize vals 9 = v9 at *
       subst f9
       clear hf
       go_wp2_with (fail)
       exact RQ.mk rfl ⟨(by first | rfl | (simp [FS27_6_30]; done) | (simp [FS27_6_30, *]; done) | (simp [FS27_6_30, gotV]; done) | (simp [FS27_6_30, gotV]; omega)), fun h => absurd h (by decide)⟩ (Below.refl _ _)
      | 24, _ =>
       injection ho with ho
       subst ho
       clear hl
       simp only [fillA, List.take, List.drop, put_none, Act.put, List.setIfInBounds_toArray, List.set_cons_zero, List.set_cons_succ, Nat.reduceAdd]
       have f9 := hf 9 (by decide) (by kernel_rfl)
       generalize vals 9 = v9 at *
       subst f9
       have f23 := hf 23 (by decide) (by kernel_rfl)
       generalize vals 23 = v23 at *
       subst f23
       clear hf
       go_wp2_with (fail)
       exact RQ.mk rfl ⟨(by first | rfl | (simp [FS27_6_30]; done) | (simp [FS27_6_30, *]; done) | (simp [FS27_6_30, gotV]; done) | (simp [FS27_6_30, gotV]; omega)), fun h => absurd h (by decide)⟩ (Below.refl _ _)
      | m + 25, h => exact absurd h (by omega)
     ·intro vals w1 hb1 hf hd
      simp only [fillA, List.take, List.drop, put_none, Act.put, List.setIfInBounds_toArray, List.set_cons_zero, List.set_cons_succ, Nat.reduceAdd]
      clear hd
      have f0 := hf 0 (by decide)
      generalize vals 0 = v0 at *
      subst f0
      have f1 := hf 1 (by decide)
      generalize vals 1 = v1 at *
      subst f1
      have f2 := hf 2 (by decide)
      generalize vals 2 = v2 at *
      subst f2
      have f3 := hf 3 (by decide)
      generalize vals 3 = v3 at *
      subst f3
      have f4 := hf 4 (by decide)
      generalize vals 4 = v4 at *
      subst f4
      have f5 := hf 5 (by decide)
      generalize vals 5 = v5 at *
      subst f5
      have f6 := hf 6 (by decide)
      generalize vals 6 = v6 at *
      subst f6
      have f7 := hf 7 (by decide)
      generalize vals 7 = v7 at *
      subst f7
      have f8 := hf 8 (by decide)
      generalize vals 8 = v8 at *
      subst f8
      have f9 := hf 9 (by decide)
      generalize vals 9 = v9 at *
      subst f9
      have f10 := hf 10 (by decide)
      generalize vals 10 = v10 at *
      subst f10
      have f11 := hf 11 (by decide)
      generalize vals 11 = v11 at *
      subst f11
      have f12 := hf 12 (by decide)
      generalize vals 12 = v12 at *
      subst f12
      have f13 := hf 13 (by decide)
      generalize vals 13 = v13 at *
      subst f13
      have f14 := hf 14 (by decide)
      generalize vals 14 = v14 at *
      subst f14
      have f15 := hf 15 (by decide)
      generalize vals 15 = v15 at *
      subst f15
      have f16 := hf 16 (by decide)
      generalize vals 16 = v16 at *
      subst f16
      have f17 := hf 17 (by decide)
      generalize vals 17 = v17 at *
      subst f17
      have f18 := hf 18 (by decide)
      generalize vals 18 = v18 at *
      subst f18
      have f19 := hf 19 (by decide)
      generalize vals 19 = v19 at *
      subst f19
      have f20 := hf 20 (by decide)
      generalize vals 20 = v20 at *
      subst f20
      have f21 := hf 21 (by decide)
      generalize vals 21 = v21 at *
      subst f21
      have f22 := hf 22 (by decide)
      generalize vals 22 = v22 at *
      subst f22
      have f23 := hf 23 (by decide)
      generalize vals 23 = v23 at *
      subst f23
      have f24 := hf 24 (by decide)
      generalize vals 24 = v24 at *
      subst f24
      clear hf
      have hc1 := cellOf hb1
      have hf1 := frozOf hb1
      have hz1 := sizeOf hb1
      try simp at hz1
      go_wp2_with (fail)
      go_ret
      exact ⟨ret_bool (by rw [HB.out (by rw [HV.out, HG.out]; rfl)]), by (repeat' (first | exact Below.refl _ _ | assumption | refine Below.setCell ?_ ?_ _ | refine Below.drew ?_ | refine Below.alloc ?_ ?_ _ | refine Below.trans ?_ (Below.mono (by assumption) ?_) | (simp; done) | (simp; omega) | omega))⟩
    have hxm := minB_bd hm
    by_cases hg : mayB d xs x = true
    rotate_left
    ·have HG : Hid (mayB d xs x = false) := by show _ = _; simpa using hg
     clear hg
     have hg := HG.out
     go_wp2_with (fail)
     refine wp_region_w (n := 25) [] [] (FS27_6_31 d A xs x y bx ox k xs.length pl.length cap capp w) rfl (by kernel_rfl) (fun _ _ d _ _ h => by cases d <;> exact h) ?_ ?_ ?_ ?_ ?_ ?_
     ·intro iq
      match iq with
      | 0 | 1 | 2 | 3 | 4 | 5 | 6 | 7 | 8 | 9 | 10 | 11 | 12 | 13 | 14 | 15 | 16 | 17 | 18 | 19 | 20 | 21 | 22 | 23 | 24 => exact Stable.const _
      | n + 25 => exact Stable.const _
     ·intro iq hi
      exact absurd hi (by simp)
     ·intro iq hi
      exact absurd hi (by simp)
     ·intro iq o hi hl ho vals w1 hb1 hf
      exact absurd hl (by simp)
     ·intro iq o hi hl ho vals w1 hb1 hf
      match iq, hi with
      | 0, _ =>
       injection ho with ho
       subst ho
       clear hl
       simp only [fillA, List.take, List.drop, put_none, Act.put, List.setIfInBounds_toArray, List.set_cons_zero, List.set_cons_succ, Nat.reduceAdd]
       clear hf
       go_wp2_with (fail)
       exact RQ.mk rfl ⟨(by first | rfl | (simp [FS27_6_31]; done) | (simp [FS27_6_31, *]; done) | (simp [FS27_6_31, gotV]; done) | (simp [FS27_6_31, gotV]; omega)), fun h => absurd h (by decide)⟩ (Below.refl _ _)
      | 1, _ =>
       injection ho with ho
       subst ho
       clear hl
       simp only [fillA, List.take, List.drop, put_none, Act.put, List.setIfInBounds_toArray, List.set_cons_zero, List.set_cons_succ, Nat.reduceAdd]
       have f0 := hf 0 (by decide) (by kernel_rfl)
       generalize vals 0 = v0 at *
       subst f0
       clear hf
       have hc1 := cellOf hb1
       have hf1 := frozOf hb1
       have hz1 := sizeOf hb1
       try simp at hz1
       go_wp2_with (first | (go_at_call 57; refine (c_impl_isMinute _ _ ).mono ?_; rintro e w' ⟨rfl, hb⟩; have hc := cellOf hb; have hf := frozOf hb; have hz := sizeOf hb; try simp at hz))
       exact RQ.mk rfl ⟨(by first | rfl | (simp [FS27_6_31]; done) | (simp [FS27_6_31, *]; done) | (simp [FS27_6_31, gotV]; done) | (simp [FS27_6_31, gotV]; omega)), fun h => absurd h (by decide)⟩ (by (repeat' (first | exact Below.refl _ _ | assumption | refine Below.setCell ?_ ?_ _ | refine Below.drew ?_ | refine Below.alloc ?_ ?_ _ | refine Below.trans ?_ (Below.mono (by assumption) ?_) | (simp; done) | (simp; omega) | omega)))
      | 2, _ =>
       injection ho with ho
       subst ho
       clear hl
       simp only [fillA, List.take, List.drop, put_none, Act.put, List.setIfInBounds_toArray, List.set_cons_zero, List.set_cons_succ, Nat.reduceAdd]
       have f1 := hf 1 (by decide) (by kernel_rfl)
       generalize vals 1 = v1 at *
       subst f1
       clear hf
       go_wp2_with (fail)
       exact RQ.mk rfl ⟨(by first | rfl | (simp [FS27_6_31]; done) | (simp [FS27_6_31, *]; done) | (simp [FS27_6_31, gotV]; done) | (simp [FS27_6_31, gotV]; omega)), fun h => absurd h (by decide)⟩ (Below.refl _ _)
      | 3, _ =>
       injection ho with ho
       subst ho
       clear hl
       simp only [fillA, List.take, List.drop, put_none, Act.put, List.setIfInBounds_toArray, List.set_cons_zero, List.set_cons_succ, Nat.reduceAdd]
       have f2 := hf 2 (by decide) (by kernel_rfl)
       generalize vals 2 = v2 at *
       subst f2
       have f1 := hf 1 (by decide) (by kernel_rfl)
       generalize vals 1 = v1 at *
       subst f1
       clear hf
       go_wp2_with (fail)
       exact RQ.mk rfl ⟨(by first | rfl | (simp [FS27_6_31]; done) | (simp [FS27_6_31, *]; done) | (simp [FS27_6_31, gotV]; done) | (simp [FS27_6_31, gotV]; omega)), fun h => absurd h (by decide)⟩ (Below.refl _ _)
      | 4, _ =>
       injection ho with ho
       subst ho
       clear hl
       simp only [fillA, List.take, List.drop, put_none, Act.put, List.setIfInBounds_toArray, List.set_cons_zero, List.set_cons_succ, Nat.reduceAdd]
       have f3 := hf 3 (by decide) (by kernel_rfl)
       generalize vals 3 = v3 at *
       subst f3
       clear hf
       have hc1 := cellOf hb1
       have hf1 := frozOf hb1
       have hz1 := sizeOf hb1
       try simp at hz1
       go_wp2_with (fail)
       exact RQ.mk rfl ⟨(by first | rfl | (simp [FS27_6_31]; done) | (simp [FS27_6_31, *]; done) | (simp [FS27_6_31, gotV]; done) | (simp [FS27_6_31, gotV]; omega)), fun h => absurd h (by decide)⟩ (Below.refl _ _)
      | 5, _ =>
       injection ho with ho
       subst ho
       clear hl
       simp only [fillA, List.take, List.drop, put_none, Act.put, List.setIfInBounds_toArray, List.set_cons_zero, List.set_cons_succ, Nat.reduceAdd]
       have f3 := hf 3 (by decide) (by kernel_rfl)
       generalize vals 3 = v3 at *
       subst f3
       clear hf
       go_wp2_with (fail)
       exact RQ.mk rfl ⟨(by first | rfl | (simp [FS27_6_31]; done) | (simp [FS27_6_31, *]; done) | (simp [FS27_6_31, gotV]; done) | (simp [FS27_6_31, gotV]; omega)), fun h => absurd h (by decide)⟩ (Below.refl _ _)
      | 6, _ =>
       injection ho with ho
       subst ho
       clear hl
       simp only [fillA, List.take, List.drop, put_none, Act.put, List.setIfInBounds_toArray, List.set_cons_zero, List.set_cons_succ, Nat.reduceAdd]
       have f4 := hf 4 (by decide) (by kernel_rfl)
       generalize vals 4 = v4 at *
       subst f4
       have f5 := hf 5 (by decide) (by kernel_rfl)
       generalize vals 5 = v5 at *
       subst f5
       have f3 := hf 3 (by decide) (by kernel_rfl)
       generalize vals 3 = v3 at *
       subst f3
       clear hf
       have hc1 := cellOf hb1
       have hf1 := frozOf hb1
       have hz1 := sizeOf hb1
       try simp at hz1
       go_wp2_with (first | (go_at_call 58; refine (c_impl_mayOpen _ _ _ _ _ _ _ (by first | assumption | exact Rds.below hx (by (repeat' (first | exact Below.refl _ _ | assumption | refine Below.setCell ?_ ?_ _ | refine Below.drew ?_ | refine Below.alloc ?_ ?_ _ | refine Below.trans ?_ (Below.mono (by assumption) ?_) | (simp; done) | (simp; omega) | omega)))) rfl (by omega) hok (by omega) (by omega)).mono ?_; rintro e w' ⟨rfl, hb⟩; have hc := cellOf hb; have hf := frozOf hb; have hz := sizeOf hb; try simp at hz))
       exact RQ.mk rfl ⟨(by first | rfl | (simp [FS27_6_31]; done) | (simp [FS27_6_31, *]; done) | (simp [FS27_6_31, gotV]; done) | (simp [FS27_6_31, gotV]; omega)), fun h => absurd h (by decide)⟩ (by (repeat' (first | exact Below.refl _ _ | assumption | refine Below.setCell ?_ ?_ _ | refine Below.drew ?_ | refine Below.alloc ?_ ?_ _ | refine Below.trans ?_ (Below.mono (by assumption) ?_) | (simp; done) | (simp; omega) | omega)))
      | 7, _ =>
       injection ho with ho
       subst ho
       clear hl
       simp only [fillA, List.take, List.drop, put_none, Act.put, List.setIfInBounds_toArray, List.set_cons_zero, List.set_cons_succ, Nat.reduceAdd]
       have f6 := hf 6 (by decide) (by kernel_rfl)
       generalize vals 6 = v6 at *
       subst f6
       have f3 := hf 3 (by decide) (by kernel_rfl)
       generalize vals 3 = v3 at *
       subst f3
       clear hf
       go_wp2_with (fail)
       exact RQ.mk rfl ⟨(by first | rfl | (simp [FS27_6_31]; done) | (simp [FS27_6_31, *]; done) | (simp [FS27_6_31, gotV]; done) | (simp [FS27_6_31, gotV]; omega)), fun h => absurd h (by decide)⟩ (Below.refl _ _)
      | 8, _ =>
       injection ho with ho
       subst ho
       clear hl
       simp only [fillA, List.take, List.drop, put_none, Act.put, List.setIfInBounds_toArray, List.set_cons_zero, List.set_cons_succ, Nat.reduceAdd]
       have f3 := hf 3 (by decide) (by kernel_rfl)
       generalize vals 3 = v3 at *
       subst f3
       have f7 := hf 7 (by decide) (by kernel_rfl)
       generalize vals 7 = v7 at *
       subst f7
       clear hf
       go_wp2_with (fail)
       exact RQ.mk rfl ⟨(by first | rfl | (simp [FS27_6_31]; done) | (simp [FS27_6_31, *]; done) | (simp [FS27_6_31, gotV]; done) | (simp [FS27_6_31, gotV]; omega)), fun h => absurd h (by decide)⟩ (Below.refl _ _)
      | 9, _ =>
       injection ho with ho
       subst ho
       clear hl
       simp only [fillA, List.take, List.drop, put_none, Act.put, List.setIfInBounds_toArray, List.set_cons_zero, List.set_cons_succ, Nat.reduceAdd]
       have f8 := hf 8 (by decide) (by kernel_rfl)
       generalize vals 8 = v8 at *
       subst f8
       have f6 := hf 6 (by decide) (by kernel_rfl)
       generalize vals 6 = v6 at *
       subst f6
       clear hf
       go_wp2_with (fail)
       exact RQ.mk rfl ⟨(by first | rfl | (simp [FS27_6_31]; done) | (simp [FS27_6_31, *]; done) | (simp [FS27_6_31, gotV]; done) | (simp [FS27_6_31, gotV]; omega)), fun h => absurd h (by decide)⟩ (Below.refl _ _)
      | 10, _ =>
       injection ho with ho
       subst ho
       clear hl
       simp only [fillA, List.take, List.drop, put_none, Act.put, List.setIfInBounds_toArray, List.set_cons_zero, List.set_cons_succ, Nat.reduceAdd]
       have f9 := hf 9 (by decide) (by kernel_rfl)
       generalize vals 9 = v9 at *
       subst f9
       clear hf
       go_wp2_with (fail)
       exact RQ.mk rfl ⟨(by first | rfl | (simp [FS27_6_31]; done) | (simp [FS27_6_31, *]; done) | (simp [FS27_6_31, gotV]; done) | (simp [FS27_6_31, gotV]; omega)), fun h => absurd h (by decide)⟩ (Below.refl _ _)
      | 11, _ =>
       injection ho with ho
       subst ho
       clear hl
       simp only [fillA, List.take, List.drop, put_none, Act.put, List.setIfInBounds_toArray, List.set_cons_zero, List.set_cons_succ, Nat.reduceAdd]
       have f10 := hf 10 (by decide) (by kernel_rfl)
       generalize vals 10 = v10 at *
       subst f10
       have f9 := hf 9 (by decide) (by kernel_rfl)
       generalize vals 9 = v9 at *
       subst f9
       clear hf
       go_wp2_with (fail)
       exact RQ.mk rfl ⟨(by first | rfl | (simp [FS27_6_31]; done) | (simp [FS27_6_31, *]; done) | (simp [FS27_6_31, gotV]; done) | (simp [FS27_6_31, gotV]; omega)), fun h => absurd h (by decide)⟩ (Below.refl _ _)
      | 12, _ =>
       injection ho with ho
       subst ho
       clear hl
       simp only [fillA, List.take, List.drop, put_none, Act.put, List.setIfInBounds_toArray, List.set_cons_zero, List.set_cons_succ, Nat.reduceAdd]
       have f11 := hf 11 (by decide) (by kernel_rfl)
       generalize vals 11 = v11 at *
       subst f11
       have f9 := hf 9 (by decide) (by kernel_rfl)
       generalize vals 9 = v9 at *
       subst f9
       clear hf
       go_wp2_with (fail)
       exact RQ.mk rfl ⟨(by first | rfl | (simp [FS27_6_31]; done) | (simp [FS27_6_31, *]; done) | (simp [FS27_6_31, gotV]; done) | (simp [FS27_6_31, gotV]; omega)), fun h => absurd h (by decide)⟩ (Below.refl _ _)
      | 13, _ =>
       injection ho with ho
       subst ho
       clear hl
       simp only [fillA, List.take, List.drop, put_none, Act.put, List.setIfInBounds_toArray, List.set_cons_zero, List.set_cons_succ, Nat.reduceAdd]
       have f12 := hf 12 (by decide) (by kernel_rfl)
       generalize vals 12 = v12 at *
       subst f12
       clear hf
       go_wp2_with (fail)
       exact RQ.mk rfl ⟨(by first | rfl | (simp [FS27_6_31]; done) | (simp [FS27_6_31, *]; done) | (simp [FS27_6_31, gotV]; done) | (simp [FS27_6_31, gotV]; omega)), fun h => absurd h (by decide)⟩ (Below.refl _ _)
      | 14, _ =>
       injection ho with ho
       subst ho
       clear hl
       simp only [fillA, List.take, List.drop, put_none, Act.put, List.setIfInBounds_toArray, List.set_cons_zero, List.set_cons_succ, Nat.reduceAdd]
       have f12 := hf 12 (by decide) (by kernel_rfl)
       generalize vals 12 = v12 at *
       subst f12
       clear hf
       go_wp2_with (fail)
       exact RQ.mk rfl ⟨(by first | rfl | (simp [FS27_6_31]; done) | (simp [FS27_6_31, *]; done) | (simp [FS27_6_31, gotV]; done) | (simp [FS27_6_31, gotV]; omega)), fun h => absurd h (by decide)⟩ (Below.refl _ _)
      | 15, _ =>
       injection ho with ho
       subst ho
       clear hl
       simp only [fillA, List.take, List.drop, put_none, Act.put, List.setIfInBounds_toArray, List.set_cons_zero, List.set_cons_succ, Nat.reduceAdd]
       have f12 := hf 12 (by decide) (by kernel_rfl)
       generalize vals 12 = v12 at *
       subst f12
       clear hf
       go_wp2_with (fail)
       exact RQ.mk rfl ⟨(by first | rfl | (simp [FS27_6_31]; done) | (simp [FS27_6_31, *]; done) | (simp [FS27_6_31, gotV]; done) | (simp [FS27_6_31, gotV]; omega)), fun h => absurd h (by decide)⟩ (Below.refl _ _)
      | 16, _ =>
       injection ho with ho
       subst ho
       clear hl
       simp only [fillA, List.take, List.drop, put_none, Act.put, List.setIfInBounds_toArray, List.set_cons_zero, List.set_cons_succ, Nat.reduceAdd]
       have f15 := hf 15 (by decide) (by kernel_rfl)
       generalize vals 15 = v15 at *
       subst f15
       have f12 := hf 12 (by decide) (by kernel_rfl)
       generalize vals 12 = v12 at *
       subst f12
       clear hf
       go_wp2_with (fail)
       exact RQ.mk rfl ⟨(by first | rfl | (simp [FS27_6_31]; done) | (simp [FS27_6_31, *]; done) | (simp [FS27_6_31, gotV]; done) | (simp [FS27_6_31, gotV]; omega)), fun h => absurd h (by decide)⟩ (Below.refl _ _)
      | 17, _ =>
       injection ho with ho
       subst ho
       clear hl
       simp only [fillA, List.take, List.drop, put_none, Act.put, List.setIfInBounds_toArray, List.set_cons_zero, List.set_cons_succ, Nat.reduceAdd]
       have f14 := hf 14 (by decide) (by kernel_rfl)
       generalize vals 14 = v14 at *
       subst f14
       have f16 := hf 16 (by decide) (by kernel_rfl)
       generalize vals 16 = v16 at *
       subst f16
       have f12 := hf 12 (by decide) (by kernel_rfl)
       generalize vals 12 = v12 at *
       subst f12
       clear hf
       go_wp2_with (fail)
       exact RQ.mk rfl ⟨(by first | rfl | (simp [FS27_6_31]; done) | (simp [FS27_6_31, *]; done) | (simp [FS27_6_31, gotV]; done) | (simp [FS27_6_31, gotV]; omega)), fun h => absurd h (by decide)⟩ (Below.refl _ _)
      | 18, _ =>
       injection ho with ho
       subst ho
       clear hl
       simp only [fillA, List.take, List.drop, put_none, Act.put, List.setIfInBounds_toArray, List.set_cons_zero, List.set_cons_succ, Nat.reduceAdd]
       have f17 := hf 17 (by decide) (by kernel_rfl)
       generalize vals 17 = v17 at *
       subst f17
       have f12 := hf 12 (by decide) (by kernel_rfl)
       generalize vals 12 = v12 at *
       subst f12
       clear hf
       go_wp2_with (fail)
       exact RQ.mk rfl ⟨(by first | rfl | (simp [FS27_6_31]; done) | (simp [FS27_6_31, *]; done) | (simp [FS27_6_31, gotV]; done) | (simp [FS27_6_31, gotV]; omega)), fun h => absurd h (by decide)⟩ (Below.refl _ _)
      | 19, _ =>
       injection ho with ho
       subst ho
       clear hl
       simp only [fillA, List.take, List.drop, put_none, Act.put, List.setIfInBounds_toArray, List.set_cons_zero, List.set_cons_succ, Nat.reduceAdd]
       have f13 := hf 13 (by decide) (by kernel_rfl)
       generalize vals 13 = v13 at *
       subst f13
       have f18 := hf 18 (by decide) (by kernel_rfl)
       generalize vals 18 = v18 at *
       subst f18
       have f12 := hf 12 (by decide) (by kernel_rfl)
       generalize vals 12 = v12 at *
       subst f12
       clear hf
       go_wp2_with (fail)
       exact RQ.mk rfl ⟨(by first | rfl | (simp [FS27_6_31]; done) | (simp [FS27_6_31, *]; done) | (simp [FS27_6_31, gotV]; done) | (simp [FS27_6_31, gotV]; omega)), fun h => absurd h (by decide)⟩ (Below.refl _ _)
      | 20, _ =>
       injection ho with ho
       subst ho
       clear hl
       simp only [fillA, List.take, List.drop, put_none, Act.put, List.setIfInBounds_toArray, List.set_cons_zero, List.set_cons_succ, Nat.reduceAdd]
       have f12 := hf 12 (by decide) (by kernel_rfl)
       generalize vals 12 = v12 at *
       subst f12
       clear hf
       go_wp2_with (fail)
       exact RQ.mk rfl ⟨(by first | rfl | (simp [FS27_6_31]; done) | (simp [FS27_6_31, *]; done) | (simp [FS27_6_31, gotV]; done) | (simp [FS27_6_31, gotV]; omega)), fun h => absurd h (by decide)⟩ (Below.refl _ _)
      | 21, _ =>
       injection ho with ho
       subst ho
       clear hl
       simp only [fillA, List.take, List.drop, put_none, Act.put, List.setIfInBounds_toArray, List.set_cons_zero, List.set_cons_succ, Nat.reduceAdd]
       have f20 := hf 20 (by decide) (by kernel_rfl)
       generalize vals 20 = v20 at *
       subst f20
       have f12 := hf 12 (by decide) (by kernel_rfl)
       generalize vals 12 = v12 at *
       subst f12
       clear hf
       go_wp2_with (fail)
       exact RQ.mk rfl ⟨(by first | rfl | (simp [FS27_6_31]; done) | (simp [FS27_6_31, *]; done) | (simp [FS27_6_31, gotV]; done) | (simp [FS27_6_31, gotV]; omega)), fun h => absurd h (by decide)⟩ (Below.refl _ _)
      | 22, _ =>
       injection ho with ho
       subst ho
       clear hl
       simp only [fillA, List.take, List.drop, put_none, Act.put, List.setIfInBounds_toArray, List.set_cons_zero, List.set_cons_succ, Nat.reduceAdd]
       have f19 := hf 19 (by decide) (by kernel_rfl)
       generalize vals 19 = v19 at *
       subst f19
       have f21 := hf 21 (by decide) (by kernel_rfl)
       generalize vals 21 = v21 at *
       subst f21
       have f12 := hf 12 (by decide) (by kernel_rfl)
       generalize vals 12 = v12 at *
       subst f12
       clear hf
       go_wp2_with (fail)
       exact RQ.mk rfl ⟨(by first | rfl | (simp [FS27_6_31]; done) | (simp [FS27_6_31, *]; done) | (simp [FS27_6_31, gotV]; done) | (simp [FS27_6_31, gotV]; omega)), fun h => absurd h (by decide)⟩ (Below.refl _ _)
      | 23, _ =>
       injection ho with ho
       subst ho
       clear hl
       simp only [fillA, List.take, List.drop, put_none, Act.put, List.setIfInBounds_toArray, List.set_cons_zero, List.set_cons_succ, Nat.reduceAdd]
       have f12 := hf 12 (by decide) (by kernel_rfl)
       generalize vals 12 = v12 at *
       subst f12
       have f22 := hf 22 (by decide) (by kernel_rfl)
       generalize vals 22 = v22 at *
       subst f22
       have f9 := hf 9 (by decide) (by kernel_rfl)
       generalize vals 9 = v9 at *
       subst f9
       clear hf
       go_wp2_with (fail)
       exact RQ.mk rfl ⟨(by first | rfl | (simp [FS27_6_31]; done) | (simp [FS27_6_31, *]; done) | (simp [FS27_6_31, gotV]; done) | (simp [FS27_6_31, gotV]; omega)), fun h => absurd h (by decide)⟩ (Below.refl _ _)
      | 24, _ =>
       injection ho with ho
       subst ho
       clear hl
       simp only [fillA, List.take, List.drop, put_none, Act.put, List.setIfInBounds_toArray, List.set_cons_zero, List.set_cons_succ, Nat.reduceAdd]
       have f9 := hf 9 (by decide) (by kernel_rfl)
       generalize vals 9 = v9 at *
       subst f9
       have f23 := hf 23 (by decide) (by kernel_rfl)
       generalize vals 23 = v23 at *
       subst f23
       clear hf
       go_wp2_with (fail)
       exact RQ.mk rfl ⟨(by first | rfl | (simp [FS27_6_31]; done) | (simp [FS27_6_31, *]; done) | (simp [FS27_6_31, gotV]; done) | (simp [FS27_6_31, gotV]; omega)), fun h => absurd h (by decide)⟩ (Below.refl _ _)
      | m + 25, h => exact absurd h (by omega)
     ·intro vals w1 hb1 hf hd
      simp only [fillA, List.take, List.drop, put_none, Act.put, List.setIfInBounds_toArray, List.set_cons_zero, List.set_cons_succ, Nat.reduceAdd]
      clear hd
      have f0 := hf 0 (by decide)
      generalize vals 0 = v0 at *
      subst f0
      have f1 := hf 1 (by decide)
      generalize vals 1 = v1 at *
      subst f1
      have f2 := hf 2 (by decide)
      generalize vals 2 = v2 at *
      subst f2
      have f3 := hf 3 (by decide)
      generalize vals 3 = v3 at *
      subst f3
      have f4 := hf 4 (by decide)
      generalize vals 4 = v4 at *
      subst f4
      have f5 := hf 5 (by decide)
      generalize vals 5 = v5 at *
      subst f5
      have f6 := hf 6 (by decide)
      generalize vals 6 = v6 at *
      subst f6
      have f7 := hf 7 (by decide)
      generalize vals 7 = v7 at *
      subst f7
      have f8 := hf 8 (by decide)
      generalize vals 8 = v8 at *
      subst f8
      have f9 := hf 9 (by decide)
      generalize vals 9 = v9 at *
      subst f9
      have f10 := hf 10 (by decide)
      generalize vals 10 = v10 at *
      subst f10
      have f11 := hf 11 (by decide)
      generalize vals 11 = v11 at *
      subst f11
      have f12 := hf 12 (by decide)
      generalize vals 12 = v12 at *
      subst f12
      have f13 := hf 13 (by decide)
      generalize vals 13 = v13 at *
      subst f13
      have f14 := hf 14 (by decide)
      generalize vals 14 = v14 at *
      subst f14
      have f15 := hf 15 (by decide)
      generalize vals 15 = v15 at *
      subst f15
      have f16 := hf 16 (by decide)
      generalize vals 16 = v16 at *
      subst f16
      have f17 := hf 17 (by decide)
      generalize vals 17 = v17 at *
      subst f17
      have f18 := hf 18 (by decide)
      generalize vals 18 = v18 at *
      subst f18
      have f19 := hf 19 (by decide)
      generalize vals 19 = v19 at *
      subst f19
      have f20 := hf 20 (by decide)
      generalize vals 20 = v20 at *
      subst f20
      have f21 := hf 21 (by decide)
      generalize vals 21 = v21 at *
      subst f21
      have f22 := hf 22 (by decide)
      generalize vals 22 = v22 at *
      subst f22
      have f23 := hf 23 (by decide)
      generalize vals 23 = v23 at *
      subst f23
      have f24 := hf 24 (by decide)
      generalize vals 24 = v24 at *
      subst f24
      clear hf
      have hc1 := cellOf hb1
      have hf1 := frozOf hb1
      have hz1 := sizeOf hb1
      try simp at hz1
      go_wp2_with (fail)
      go_ret
      exact ⟨ret_bool (by rw [HB.out (by rw [HV.out, HG.out]; rfl)]), by (repeat' (first | exact Below.refl _ _ | assumption | refine Below.setCell ?_ ?_ _ | refine Below.drew ?_ | refine Below.alloc ?_ ?_ _ | refine Below.trans ?_ (Below.mono (by assumption) ?_) | (simp; done) | (simp; omega) | omega))⟩
    have HG := hid hg
    by_cases hl2 : x - y < d
    ·have H2 := hid (show gapLe d y x = false by simp [gapLe]; omega)
     go_wp2_with (fail)
     refine wp_region_w (n := 25) [] [] (FS27_6_32 d A xs x y bx ox k xs.length pl.length cap capp w) rfl (by kernel_rfl) (fun _ _ d _ _ h => by cases d <;> exact h) ?_ ?_ ?_ ?_ ?_ ?_
     ·intro iq
      match iq with
      | 0 | 1 | 2 | 3 | 4 | 5 | 6 | 7 | 8 | 9 | 10 | 11 | 12 | 13 | 14 | 15 | 16 | 17 | 18 | 19 | 20 | 21 | 22 | 23 | 24 => exact Stable.const _
      | n + 25 => exact Stable.const _
     ·intro iq hi
      exact absurd hi (by simp)
     ·intro iq hi
      exact absurd hi (by simp)
     ·intro iq o hi hl ho vals w1 hb1 hf
      exact absurd hl (by simp)
     ·intro iq o hi hl ho vals w1 hb1 hf
      match iq, hi with
      | 0, _ =>
       injection ho with ho
       subst ho
       clear hl
       simp only [fillA, List.take, List.drop, put_none, Act.put, List.setIfInBounds_toArray, List.set_cons_zero, List.set_cons_succ, Nat.reduceAdd]
       clear hf
       go_wp2_with (fail)
       exact RQ.mk rfl ⟨(by first | rfl | (simp [FS27_6_32]; done) | (simp [FS27_6_32, *]; done) | (simp [FS27_6_32, gotV]; done) | (simp [FS27_6_32, gotV]; omega)), fun h => absurd h (by decide)⟩ (Below.refl _ _)
      | 1, _ =>
       injection ho with ho
       subst ho
       clear hl
       simp only [fillA, List.take, List.drop, put_none, Act.put, List.setIfInBounds_toArray, List.set_cons_zero, List.set_cons_succ, Nat.reduceAdd]
       have f0 := hf 0 (by decide) (by kernel_rfl)
       generalize vals 0 = v0 at *
       subst f0
       clear hf
       have hc1 := cellOf hb1
       have hf1 := frozOf hb1
       have hz1 := sizeOf hb1
       try simp at hz1
       go_wp2_with (first | (go_at_call 57; refine (c_impl_isMinute _ _ ).mono ?_; rintro e w' ⟨rfl, hb⟩; have hc := cellOf hb; have hf := frozOf hb; have hz := sizeOf hb; try simp at hz))
       exact RQ.mk rfl ⟨(by first | rfl | (simp [FS27_6_32]; done) | (simp [FS27_6_32, *]; done) | (simp [FS27_6_32, gotV]; done) | (simp [FS27_6_32, gotV]; omega)), fun h => absurd h (by decide)⟩ (by (repeat' (first | exact Below.refl _ _ | assumption | refine Below.setCell ?_ ?_ _ | refine Below.drew ?_ | refine Below.alloc ?_ ?_ _ | refine Below.trans ?_ (Below.mono (by assumption) ?_) | (simp; done) | (simp; omega) | omega)))
      | 2, _ =>
       injection ho with ho
       subst ho
       clear hl
       simp only [fillA, List.take, List.drop, put_none, Act.put, List.setIfInBounds_toArray, List.set_cons_zero, List.set_cons_succ, Nat.reduceAdd]
       have f1 := hf 1 (by decide) (by kernel_rfl)
       generalize vals 1 = v1 at *
       subst f1
       clear hf
       go_wp2_with (fail)
       exact RQ.mk rfl ⟨(by first | rfl | (simp [FS27_6_32]; done) | (simp [FS27_6_32, *]; done) | (simp [FS27_6_32, gotV]; done) | (simp [FS27_6_32, gotV]; omega)), fun h => absurd h (by decide)⟩ (Below.refl _ _)
      | 3, _ =>
       injection ho with ho
       subst ho
       clear hl
       simp only [fillA, List.take, List.drop, put_none, Act.put, List.setIfInBounds_toArray, List.set_cons_zero, List.set_cons_succ, Nat.reduceAdd]
       have f2 := hf 2 (by decide) (by kernel_rfl)
       generalize vals 2 = v2 at *
       subst f2
       have f1 := hf 1 (by decide) (by kernel_rfl)
       generalize vals 1 = v1 at *
       subst f1
       clear hf
       go_wp2_with (fail)
       exact RQ.mk rfl ⟨(by first | rfl | (simp [FS27_6_32]; done) | (simp [FS27_6_32, *]; done) | (simp [FS27_6_32, gotV]; done) | (simp [FS27_6_32, gotV]; omega)), fun h => absurd h (by decide)⟩ (Below.refl _ _)
      | 4, _ =>
       injection ho with ho
       subst ho
       clear hl
       simp only [fillA, List.take, List.drop, put_none, Act.put, List.setIfInBounds_toArray, List.set_cons_zero, List.set_cons_succ, Nat.reduceAdd]
       have f3 := hf 3 (by decide) (by kernel_rfl)
       generalize vals 3 = v3 at *
       subst f3
       clear hf
       have hc1 := cellOf hb1
       have hf1 := frozOf hb1
       have hz1 := sizeOf hb1
       try simp at hz1
       go_wp2_with (fail)
       exact RQ.mk rfl ⟨(by first | rfl | (simp [FS27_6_32]; done) | (simp [FS27_6_32, *]; done) | (simp [FS27_6_32, gotV]; done) | (simp [FS27_6_32, gotV]; omega)), fun h => absurd h (by decide)⟩ (Below.refl _ _)
      | 5, _ =>
       injection ho with ho
       subst ho
       clear hl
       simp only [fillA, List.take, List.drop, put_none, Act.put, List.setIfInBounds_toArray, List.set_cons_zero, List.set_cons_succ, Nat.reduceAdd]
       have f3 := hf 3 (by decide) (by kernel_rfl)
       generalize vals 3 = v3 at *
       subst f3
       clear hf
       go_wp2_with (fail)
       exact RQ.mk rfl ⟨(by first | rfl | (simp [FS27_6_32]; done) | (simp [FS27_6_32, *]; done) | (simp [FS27_6_32, gotV]; done) | (simp [FS27_6_32, gotV]; omega)), fun h => absurd h (by decide)⟩ (Below.refl _ _)
      | 6, _ =>
       injection ho with ho
       subst ho
       clear hl
       simp only [fillA, List.take, List.drop, put_none, Act.put, List.setIfInBounds_toArray, List.set_cons_zero, List.set_cons_succ, Nat.reduceAdd]
       have f4 := hf 4 (by decide) (by kernel_rfl)
       generalize vals 4 = v4 at *
       subst f4
       have f5 := hf 5 (by decide) (by kernel_rfl)
       generalize vals 5 = v5 at *
       subst f5
       have f3 := hf 3 (by decide) (by kernel_rfl)
       generalize vals 3 = v3 at *
       subst f3
       clear hf
       have hc1 := cellOf hb1
       have hf1 := frozOf hb1
       have hz1 := sizeOf hb1
       try simp at hz1
       go_wp2_with (first | (go_at_call 58; refine (c_impl_mayOpen _ _ _ _ _ _ _ (by first | assumption | exact Rds.below hx (by (repeat' (first | exact Below.refl _ _ | assumption | refine Below.setCell ?_ ?_ _ | refine Below.drew ?_ | refine Below.alloc ?_ ?_ _ | refine Below.trans ?_ (Below.mono (by assumption) ?_) | (simp; done) | (simp; omega) | omega)))) rfl (by omega) hok (by omega) (by omega)).mono ?_; rintro e w' ⟨rfl, hb⟩; have hc := cellOf hb; have hf := frozOf hb; have hz := sizeOf hb; try simp at hz))
       exact RQ.mk rfl ⟨(by first | rfl | (simp [FS27_6_32]; done) | (simp [FS27_6_32, *]; done) | (simp [FS27_6_32, gotV]; done) | (simp [FS27_6_32, gotV]; omega)), fun h => absurd h (by decide)⟩ (by (repeat' (first | exact Below.refl _ _ | assumption | refine Below.setCell ?_ ?_ _ | refine Below.drew ?_ | refine Below.alloc ?_ ?_ _ | refine Below.trans ?_ (Below.mono (by assumption) ?_) | (simp; done) | (simp; omega) | omega)))
      | 7, _ =>
       injection ho with ho
       subst ho
       clear hl
       simp only [fillA, List.take, List.drop, put_none, Act.put, List.setIfInBounds_toArray, List.set_cons_zero, List.set_cons_succ, Nat.reduceAdd]
       have f6 := hf 6 (by decide) (by kernel_rfl)
       generalize vals 6 = v6 at *
       subst f6
       have f3 := hf 3 (by decide) (by kernel_rfl)
       generalize vals 3 = v3 at *
       subst f3
       clear hf
       go_wp2_with (fail)
       exact RQ.mk rfl ⟨(by first | rfl | (simp [FS27_6_32]; done) | (simp [FS27_6_32, *]; done) | (simp [FS27_6_32, gotV]; done) | (simp [FS27_6_32, gotV]; omega)), fun h => absurd h (by decide)⟩ (Below.refl _ _)
      | 8, _ =>
       injection ho with ho
       subst ho
       clear hl
       simp only [fillA, List.take, List.drop, put_none, Act.put, List.setIfInBounds_toArray, List.set_cons_zero, List.set_cons_succ, Nat.reduceAdd]
       have f3 := hf 3 (by decide) (by kernel_rfl)
       generalize vals 3 = v3 at *
       subst f3
       have f7 := hf 7 (by decide) (by kernel_rfl)
       generalize vals 7 = v7 at *
       subst f7
       clear hf
       go_wp2_with (fail)
       exact RQ.mk rfl ⟨(by first | rfl | (simp [FS27_6_32]; done) | (simp [FS27_6_32, *]; done) | (simp [FS27_6_32, gotV]; done) | (simp [FS27_6_32, gotV]; omega)), fun h => absurd h (by decide)⟩ (Below.refl _ _)
      | 9, _ =>
       injection ho with ho
       subst ho
       clear hl
       simp only [fillA, List.take, List.drop, put_none, Act.put, List.setIfInBounds_toArray, List.set_cons_zero, List.set_cons_succ, Nat.reduceAdd]
       have f8 := hf 8 (by decide) (by kernel_rfl)
       generalize vals 8 = v8 at *
       subst f8
       have f6 := hf 6 (by decide) (by kernel_rfl)
       generalize vals 6 = v6 at *
       subst f6
       clear hf
       go_wp2_with (fail)
       exact RQ.mk rfl ⟨(by first | rfl | (simp [FS27_6_32]; done) | (simp [FS27_6_32, *]; done) | (simp [FS27_6_32, gotV]; done) | (simp [FS27_6_32, gotV]; omega)), fun h => absurd h (by decide)⟩ (Below.refl _ _)
      | 10, _ =>
       injection ho with ho
       subst ho
       clear hl
       simp only [fillA, List.take, List.drop, put_none, Act.put, List.setIfInBounds_toArray, List.set_cons_zero, List.set_cons_succ, Nat.reduceAdd]
       have f9 := hf 9 (by decide) (by kernel_rfl)
       generalize vals 9 = v9 at *
       subst f9
       clear hf
       go_wp2_with (fail)
       exact RQ.mk rfl ⟨(by first | rfl | (simp [FS27_6_32]; done) | (simp [FS27_6_32, *]; done) | (simp [FS27_6_32, gotV]; done) | (simp [FS27_6_32, gotV]; omega)), fun h => absurd h (by decide)⟩ (Below.refl _ _)
      | 11, _ =>
       injection ho with ho
       subst ho
       clear hl
       simp only [fillA, List.take, List.drop, put_none, Act.put, List.setIfInBounds_toArray, List.set_cons_zero, List.set_cons_succ, Nat.reduceAdd]
       have f10 := hf 10 (by decide) (by kernel_rfl)
       generalize vals 10 = v10 at *
       subst f10
       have f9 := hf 9 (by decide) (by kernel_rfl)
       generalize vals 9 = v9 at *
       subst f9
       clear hf
       go_wp2_with (fail)
       exact RQ.mk rfl ⟨(by first | rfl | (simp [FS27_6_32]; done) | (simp [FS27_6_32, *]; done) | (simp [FS27_6_32, gotV]; done) | (simp [FS27_6_32, gotV]; omega)), fun h => absurd h (by decide)⟩ (Below.refl _ _)
      | 12, _ =>
       injection ho with ho
       subst ho
       clear hl
       simp only [fillA, List.take, List.drop, put_none, Act.put, List.setIfInBounds_toArray, List.set_cons_zero, List.set_cons_succ, Nat.reduceAdd]
       have f11 := hf 11 (by decide) (by kernel_rfl)
       generalize vals 11 = v11 at *
       subst f11
       have f9 := hf 9 (by decide) (by kernel_rfl)
       generalize vals 9 = v9 at *
       subst f9
       clear hf
       go_wp2_with (fail)
       exact RQ.mk rfl ⟨(by first | rfl | (simp [FS27_6_32]; done) | (simp [FS27_6_32, *]; done) | (simp [FS27_6_32, gotV]; done) | (simp [FS27_6_32, gotV]; omega)), fun h => absurd h (by decide)⟩ (Below.refl _ _)
      | 13, _ =>
       injection ho with ho
       subst ho
       clear hl
       simp only [fillA, List.take, List.drop, put_none, Act.put, List.setIfInBounds_toArray, List.set_cons_zero, List.set_cons_succ, Nat.reduceAdd]
       have f12 := hf 12 (by decide) (by kernel_rfl)
       generalize vals 12 = v12 at *
       subst f12
       clear hf
       go_wp2_with (fail)
       exact RQ.mk rfl ⟨(by first | rfl | (simp [FS27_6_32]; done) | (simp [FS27_6_32, *]; done) | (simp [FS27_6_32, gotV]; done) | (simp [FS27_6_32, gotV]; omega)), fun h => absurd h (by decide)⟩ (Below.refl _ _)
      | 14, _ =>
       injection ho with ho
       subst ho
       clear hl
       simp only [fillA, List.take, List.drop, put_none, Act.put, List.setIfInBounds_toArray, List.set_cons_zero, List.set_cons_succ, Nat.reduceAdd]
       have f12 := hf 12 (by decide) (by kernel_rfl)
       generalize vals 12 = v12 at *
       subst f12
       clear hf
       go_wp2_with (fail)
       exact RQ.mk rfl ⟨(by first | rfl | (simp [FS27_6_32]; done) | (simp [FS27_6_32, *]; done) | (simp [FS27_6_32, gotV]; done) | (simp [FS27_6_32, gotV]; omega)), fun h => absurd h (by decide)⟩ (Below.refl _ _)
      | 15, _ =>
       injection ho with ho
       subst ho
       clear hl
       simp only [fillA, List.take, List.drop, put_none, Act.put, List.setIfInBounds_toArray, List.set_cons_zero, List.set_cons_succ, Nat.reduceAdd]
       have f12 := hf 12 (by decide) (by kernel_rfl)
       generalize vals 12 = v12 at *
       subst f12
       clear hf
       go_wp2_with (fail)
       exact RQ.mk rfl ⟨(by first | rfl | (simp [FS27_6_32]; done) | (simp [FS27_6_32, *]; done) | (simp [FS27_6_32, gotV]; done) | (simp [FS27_6_32, gotV]; omega)), fun h => absurd h (by decide)⟩ (Below.refl _ _)
      | 16, _ =>
       injection ho with ho
       subst ho
       clear hl
       simp only [fillA, List.take, List.drop, put_none, Act.put, List.setIfInBounds_toArray, List.set_cons_zero, List.set_cons_succ, Nat.reduceAdd]
       have f15 := hf 15 (by decide) (by kernel_rfl)
       generalize vals 15 = v15 at *
       subst f15
       have f12 := hf 12 (by decide) (by kernel_rfl)
       generalize vals 12 = v12 at *
       subst f12
       clear hf
       go_wp2_with (fail)
       exact RQ.mk rfl ⟨(by first | rfl | (simp [FS27_6_32]; done) | (simp [FS27_6_32, *]; done) | (simp [FS27_6_32, gotV]; done) | (simp [FS27_6_32, gotV]; omega)), fun h => absurd h (by decide)⟩ (Below.refl _ _)
      | 17, _ =>
       injection ho with ho
       subst ho
       clear hl
       simp only [fillA, List.take, List.drop, put_none, Act.put, List.setIfInBounds_toArray, List.set_cons_zero, List.set_cons_succ, Nat.reduceAdd]
       have f14 := hf 14 (by decide) (by kernel_rfl)
       generalize vals 14 = v14 at *
       subst f14
       have f16 := hf 16 (by decide) (by kernel_rfl)
       generalize vals 16 = v16 at *
       subst f16
       have f12 := hf 12 (by decide) (by kernel_rfl)
       generalize vals 12 = v12 at *
       subst f12
       clear hf
       go_wp2_with (fail)
       exact RQ.mk rfl ⟨(by first | rfl | (simp [FS27_6_32]; done) | (simp [FS27_6_32, *]; done) | (simp [FS27_6_32, gotV]; done) | (simp [FS27_6_32, gotV]; omega)), fun h => absurd h (by decide)⟩ (Below.refl _ _)
      | 18, _ =>
       injection ho with ho
       subst ho
       clear hl
       simp only [fillA, List.take, List.drop, put_none, Act.put, List.setIfInBounds_toArray, List.set_cons_zero, List.set_cons_succ, Nat.reduceAdd]
       have f17 := hf 17 (by decide) (by kernel_rfl)
       generalize vals 17 = v17 at *
       subst f17
       have f12 := hf 12 (by decide) (by kernel_rfl)
       generalize vals 12 = v12 at *
       subst f12
       clear hf
       have hc1 := cellOf hb1
       have hf1 := frozOf hb1
       have hz1 := sizeOf hb1
       try simp at hz1
       go_wp2_with (fail)
       exact RQ.mk rfl ⟨(by first | rfl | (simp [FS27_6_32]; done) | (simp [FS27_6_32, *]; done) | (simp [FS27_6_32, gotV]; done) | (simp [FS27_6_32, gotV]; omega)), fun h => absurd h (by decide)⟩ (Below.refl _ _)
      | 19, _ =>
       injection ho with ho
       subst ho
       clear hl
       simp only [fillA, List.take, List.drop, put_none, Act.put, List.setIfInBounds_toArray, List.set_cons_zero, List.set_cons_succ, Nat.reduceAdd]
       have f13 := hf 13 (by decide) (by kernel_rfl)
       generalize vals 13 = v13 at *
       subst f13
       have f18 := hf 18 (by decide) (by kernel_rfl)
       generalize vals 18 = v18 at *
       subst f18
       have f12 := hf 12 (by decide) (by kernel_rfl)
       generalize vals 12 = v12 at *
       subst f12
       clear hf
       go_wp2_with (fail)
       exact RQ.mk rfl ⟨(by first | rfl | (simp [FS27_6_32]; done) | (simp [FS27_6_32, *]; done) | (simp [FS27_6_32, gotV]; done) | (simp [FS27_6_32, gotV]; omega)), fun h => absurd h (by decide)⟩ (Below.refl _ _)
      | 20, _ =>
       injection ho with ho
       subst ho
       clear hl
       simp only [fillA, List.take, List.drop, put_none, Act.put, List.setIfInBounds_toArray, List.set_cons_zero, List.set_cons_succ, Nat.reduceAdd]
       have f12 := hf 12 (by decide) (by kernel_rfl)
       generalize vals 12 = v12 at *
       subst f12
       clear hf
       go_wp2_with (fail)
       exact RQ.mk rfl ⟨(by first | rfl | (simp [FS27_6_32]; done) | (simp [FS27_6_32, *]; done) | (simp [FS27_6_32, gotV]; done) | (simp [FS27_6_32, gotV]; omega)), fun h => absurd h (by decide)⟩ (Below.refl _ _)
      | 21, _ =>
       injection ho with ho
       subst ho
       clear hl
       simp only [fillA, List.take, List.drop, put_none, Act.put, List.setIfInBounds_toArray, List.set_cons_zero, List.set_cons_succ, Nat.reduceAdd]
       have f20 := hf 20 (by decide) (by kernel_rfl)
       generalize vals 20 = v20 at *
       subst f20
       have f12 := hf 12 (by decide) (by kernel_rfl)
       generalize vals 12 = v12 at *
       subst f12
       clear hf
       have hc1 := cellOf hb1
       have hf1 := frozOf hb1
       have hz1 := sizeOf hb1
       try simp at hz1
       go_wp2_with (fail)
       exact RQ.mk rfl ⟨(by first | rfl | (simp [FS27_6_32]; done) | (simp [FS27_6_32, *]; done) | (simp [FS27_6_32, gotV]; done) | (simp [FS27_6_32, gotV]; omega)), fun h => absurd h (by decide)⟩ (Below.refl _ _)
      | 22, _ =>
       injection ho with ho
       subst ho
       clear hl
       simp only [fillA, List.take, List.drop, put_none, Act.put, List.setIfInBounds_toArray, List.set_cons_zero, List.set_cons_succ, Nat.reduceAdd]
       have f19 := hf 19 (by decide) (by kernel_rfl)
       generalize vals 19 = v19 at *
       subst f19
       have f21 := hf 21 (by decide) (by kernel_rfl)
       generalize vals 21 = v21 at *
       subst f21
       have f12 := hf 12 (by decide) (by kernel_rfl)
       generalize vals 12 = v12 at *
       subst f12
       clear hf
       go_wp2_with (fail)
       exact RQ.mk rfl ⟨(by first | rfl | (simp [FS27_6_32]; done) | (simp [FS27_6_32, *]; done) | (simp [FS27_6_32, gotV]; done) | (simp [FS27_6_32, gotV]; omega)), fun h => absurd h (by decide)⟩ (Below.refl _ _)
      | 23, _ =>
       injection ho with ho
       subst ho
       clear hl
       simp only [fillA, List.take, List.drop, put_none, Act.put, List.setIfInBounds_toArray, List.set_cons_zero, List.set_cons_succ, Nat.reduceAdd]
       have f12 := hf 12 (by decide) (by kernel_rfl)
       generalize vals 12 = v12 at *
       subst f12
       have f22 := hf 22 (by decide) (by kernel_rfl)
       generalize vals 22 = v22 at *
       subst f22
       have f9 := hf 9 (by decide) (by kernel_rfl)
       generalize vals 9 = v9 at *
       subst f9
       clear hf
       go_wp2_with (fail)
       exact RQ.mk rfl ⟨(by first | rfl | (simp [FS27_6_32]; done) | (simp [FS27_6_32, *]; done) | (simp [FS27_6_32, gotV]; done) | (simp [FS27_6_32, gotV]; omega)), fun h => absurd h (by decide)⟩ (Below.refl _ _)
      | 24, _ =>
       injection ho with ho
       subst ho
       clear hl
       simp only [fillA, List.take, List.drop, put_none, Act.put, List.setIfInBounds_toArray, List.set_cons_zero, List.set_cons_succ, Nat.reduceAdd]
       have f9 := hf 9 (by decide) (by kernel_rfl)
       generalize vals 9 = v9 at *
       subst f9
       have f23 := hf 23 (by decide) (by kernel_rfl)
       generalize vals 23 = v23 at *
       subst f23
       clear hf
       go_wp2_with (fail)
       exact RQ.mk rfl ⟨(by first | rfl | (simp [FS27_6_32]; done) | (simp [FS27_6_32, *]; done) | (simp [FS27_6_32, gotV]; done) | (simp [FS27_6_32, gotV]; omega)), fun h => absurd h (by decide)⟩ (Below.refl _ _)
      | m + 25, h => exact absurd h (by omega)
     ·intro vals w1 hb1 hf hd
      simp only [fillA, List.take, List.drop, put_none, Act.put, List.setIfInBounds_toArray, List.set_cons_zero, List.set_cons_succ, Nat.reduceAdd]
      clear hd
      have f0 := hf 0 (by decide)
      generalize vals 0 = v0 at *
      subst f0
      have f1 := hf 1 (by decide)
      generalize vals 1 = v1 at *
      subst f1
      have f2 := hf 2 (by decide)
      generalize vals 2 = v2 at *
      subst f2
      have f3 := hf 3 (by decide)
      generalize vals 3 = v3 at *
      subst f3
      have f4 := hf 4 (by decide)
      generalize vals 4 = v4 at *
      subst f4
      have f5 := hf 5 (by decide)
      generalize vals 5 = v5 at *
      subst f5
      have f6 := hf 6 (by decide)
      generalize vals 6 = v6 at *
      subst f6
      have f7 := hf 7 (by decide)
      generalize vals 7 = v7 at *
      subst f7
      have f8 := hf 8 (by decide)
      generalize vals 8 = v8 at *
      subst f8
      have f9 := hf 9 (by decide)
      generalize vals 9 = v9 at *
      subst f9
      have f10 := hf 10 (by decide)
      generalize vals 10 = v10 at *
      subst f10
      have f11 := hf 11 (by decide)
      generalize vals 11 = v11 at *
      subst f11
      have f12 := hf 12 (by decide)
      generalize vals 12 = v12 at *
      subst f12
      have f13 := hf 13 (by decide)
      generalize vals 13 = v13 at *
      subst f13
      have f14 := hf 14 (by decide)
      generalize vals 14 = v14 at *
      subst f14
      have f15 := hf 15 (by decide)
      generalize vals 15 = v15 at *
      subst f15
      have f16 := hf 16 (by decide)
      generalize vals 16 = v16 at *
      subst f16
      have f17 := hf 17 (by decide)
      generalize vals 17 = v17 at *
      subst f17
      have f18 := hf 18 (by decide)
      generalize vals 18 = v18 at *
      subst f18
      have f19 := hf 19 (by decide)
      generalize vals 19 = v19 at *
      subst f19
      have f20 := hf 20 (by decide)
      generalize vals 20 = v20 at *
      subst f20
      have f21 := hf 21 (by decide)
      generalize vals 21 = v21 at *
      subst f21
      have f22 := hf 22 (by decide)
      generalize vals 22 = v22 at *
      subst f22
      have f23 := hf 23 (by decide)
      generalize vals 23 = v23 at *
      subst f23
      have f24 := hf 24 (by decide)
      generalize vals 24 = v24 at *
      subst f24
      clear hf
      have hc1 := cellOf hb1
      have hf1 := frozOf hb1
      have hz1 := sizeOf hb1
      try simp at hz1
      go_wp2_with (fail)
      go_ret
      exact ⟨ret_bool (by rw [HB.out (by rw [HV.out, HG.out, H2.out]; rfl)]), by (repeat' (first | exact Below.refl _ _ | assumption | refine Below.setCell ?_ ?_ _ | refine Below.drew ?_ | refine Below.alloc ?_ ?_ _ | refine Below.trans ?_ (Below.mono (by assumption) ?_) | (simp; done) | (simp; omega) | omega))⟩
    ·have H2 := hid (show gapLe d y x = true by simp [gapLe]; omega)
     go_wp2_with (fail)
     refine wp_region_w (n := 25) [] [] (FS27_6_33 d A xs x y bx ox k xs.length pl.length cap capp w) rfl (by kernel_rfl) (fun _ _ d _ _ h => by cases d <;> exact h) ?_ ?_ ?_ ?_ ?_ ?_
     ·intro iq
      match iq with
      | 0 | 1 | 2 | 3 | 4 | 5 | 6 | 7 | 8 | 9 | 10 | 11 | 12 | 13 | 14 | 15 | 16 | 17 | 18 | 19 | 20 | 21 | 22 | 23 | 24 => exact Stable.const _
      | n + 25 => exact Stable.const _
     ·intro iq hi
      exact absurd hi (by simp)
     ·intro iq hi
      exact absurd hi (by simp)
     ·intro iq o hi hl ho vals w1 hb1 hf
      exact absurd hl (by simp)
     ·intro iq o hi hl ho vals w1 hb1 hf
      match iq, hi with
      | 0, _ =>
       injection ho with ho
       subst ho
       clear hl
       simp only [fillA, List.take, List.drop, put_none, Act.put, List.setIfInBounds_toArray, List.set_cons_zero, List.set_cons_succ, Nat.reduceAdd]
       clear hf
       go_wp2_with (fail)
       exact RQ.mk rfl ⟨(by first | rfl | (simp [FS27_6_33]; done) | (simp [FS27_6_33, *]; done) | (simp [FS27_6_33, gotV]; done) | (simp [FS27_6_33, gotV]; omega)), fun h => absurd h (by decide)⟩ (Below.refl _ _)
      | 1, _ =>
       injection ho with ho
       subst ho
       clear hl
       simp only [fillA, List.take, List.drop, put_none, Act.put, List.setIfInBounds_toArray, List.set_cons_zero, List.set_cons_succ, Nat.reduceAdd]
       have f0 := hf 0 (by decide) (by kernel_rfl)
       generalize vals 0 = v0 at *
       subst f0
       clear hf
       have hc1 := cellOf hb1
       have hf1 := frozOf hb1
       have hz1 := sizeOf hb1
       try simp at hz1
       go_wp2_with (first | (go_at_call 57; refine (c_impl_isMinute _ _ ).mono ?_; rintro e w' ⟨rfl, hb⟩; have hc := cellOf hb; have hf := frozOf hb; have hz := sizeOf hb; try simp at hz))
       exact RQ.mk rfl ⟨(by first | rfl | (simp [FS27_6_33]; done) | (simp [FS27_6_33, *]; done) | (simp [FS27_6_33, gotV]; done) | (simp [FS27_6_33, gotV]; omega)), fun h => absurd h (by decide)⟩ (by (repeat' (first | exact Below.refl _ _ | assumption | refine Below.setCell ?_ ?_ _ | refine Below.drew ?_ | refine Below.alloc ?_ ?_ _ | refine Below.trans ?_ (Below.mono (by assumption) ?_) | (simp; done) | (simp; omega) | omega)))
      | 2, _ =>
       injection ho with ho
       subst ho
       clear hl
       simp only [fillA, List.take, List.drop, put_none, Act.put, List.setIfInBounds_toArray, List.set_cons_zero, List.set_cons_succ, Nat.reduceAdd]
       have f1 := hf 1 (by decide) (by kernel_rfl)
       generalize vals 1 = v1 at *
       subst f1
       clear hf
       go_wp2_with (fail)
       exact RQ.mk rfl ⟨(by first | rfl | (simp [FS27_6_33]; done) | (simp [FS27_6_33, *]; done) | (simp [FS27_6_33, gotV]; done) | (simp [FS27_6_33, gotV]; omega)), fun h => absurd h (by decide)⟩ (Below.refl _ _)
      | 3, _ =>
       injection ho with ho
       subst ho
       clear hl
       simp only [fillA, List.take, List.drop, put_none, Act.put, List.setIfInBounds_toArray, List.set_cons_zero, List.set_cons_succ, Nat.reduceAdd]
       have f2 := hf 2 (by decide) (by kernel_rfl)
       generalize vals 2 = v2 at *
       subst f2
       have f1 := hf 1 (by decide) (by kernel_rfl)
       generalize vals 1 = v1 at *
       subst f1
       clear hf
       go_wp2_with (fail)
       exact RQ.mk rfl ⟨(by first | rfl | (simp [FS27_6_33]; done) | (simp [FS27_6_33, *]; done) | (simp [FS27_6_33, gotV]; done) | (simp [FS27_6_33, gotV]; omega)), fun h => absurd h (by decide)⟩ (Below.refl _ _)
      | 4, _ =>
       injection ho with ho
       subst ho
       clear hl
       simp only [fillA, List.take, List.drop, put_none, Act.put, List.setIfInBounds_toArray, List.set_cons_zero, List.set_cons_succ, Nat.reduceAdd]
       have f3 := hf 3 (by decide) (by kernel_rfl)
       generalize vals 3 = v3 at *
       subst f3
       clear hf
       have hc1 := cellOf hb1
       have hf1 := frozOf hb1
       have hz1 := sizeOf hb1
       try simp at hz1
       go_wp2_with (fail)
       exact RQ.mk rfl ⟨(by first | rfl | (simp [FS27_6_33]; done) | (simp [FS27_6_33, *]; done) | (simp [FS27_6_33, gotV]; done) | (simp [FS27_6_33, gotV]; omega)), fun h => absurd h (by decide)⟩ (Below.refl _ _)
      | 5, _ =>
       injection ho with ho
       subst ho
       clear hl
       simp only [fillA, List.take, List.drop, put_none, Act.put, List.setIfInBounds_toArray, List.set_cons_zero, List.set_cons_succ, Nat.reduceAdd]
       have f3 := hf 3 (by decide) (by kernel_rfl)
       generalize vals 3 = v3 at *
       subst f3
       clear hf
       go_wp2_with (fail)
       exact RQ.mk rfl ⟨(by first | rfl | (simp [FS27_6_33]; done) | (simp [FS27_6_33, *]; done) | (simp [FS27_6_33, gotV]; done) | (simp [FS27_6_33, gotV]; omega)), fun h => absurd h (by decide)⟩ (Below.refl _ _)
      | 6, _ =>
       injection ho with ho
       subst ho
       clear hl
       simp only [fillA, List.take, List.drop, put_none, Act.put, List.setIfInBounds_toArray, List.set_cons_zero, List.set_cons_succ, Nat.reduceAdd]
       have f4 := hf 4 (by decide) (by kernel_rfl)
       generalize vals 4 = v4 at *
       subst f4
       have f5 := hf 5 (by decide) (by kernel_rfl)
       generalize vals 5 = v5 at *
       subst f5
       have f3 := hf 3 (by decide) (by kernel_rfl)
       generalize vals 3 = v3 at *
       subst f3
       clear hf
       have hc1 := cellOf hb1
       have hf1 := frozOf hb1
       have hz1 := sizeOf hb1
       try simp at hz1
       go_wp2_with (first | (go_at_call 58; refine (c_impl_mayOpen _ _ _ _ _ _ _ (by first | assumption | exact Rds.below hx (by (repeat' (first | exact Below.refl _ _ | assumption | refine Below.setCell ?_ ?_ _ | refine Below.drew ?_ | refine Below.alloc ?_ ?_ _ | refine Below.trans ?_ (Below.mono (by assumption) ?_) | (simp; done) | (simp; omega) | omega)))) rfl (by omega) hok (by omega) (by omega)).mono ?_; rintro e w' ⟨rfl, hb⟩; have hc := cellOf hb; have hf := frozOf hb; have hz := sizeOf hb; try simp at hz))
       exact RQ.mk rfl ⟨(by first | rfl | (simp [FS27_6_33]; done) | (simp [FS27_6_33, *]; done) | (simp [FS27_6_33, gotV]; done) | (simp [FS27_6_33, gotV]; omega)), fun h => absurd h (by decide)⟩ (by (repeat' (first | exact Below.refl _ _ | assumption | refine Below.setCell ?_ ?_ _ | refine Below.drew ?_ | refine Below.alloc ?_ ?_ _ | refine Below.trans ?_ (Below.mono (by assumption) ?_) | (simp; done) | (simp; omega) | omega)))
      | 7, _ =>
       injection ho with ho
       subst ho
       clear hl
       simp only [fillA, List.take, List.drop, put_none, Act.put, List.setIfInBounds_toArray, List.set_cons_zero, List.set_cons_succ, Nat.reduceAdd]
       have f6 := hf 6 (by decide) (by kernel_rfl)
       generalize vals 6 = v6 at *
       subst f6
       have f3 := hf 3 (by decide) (by kernel_rfl)
       generalize vals 3 = v3 at *
       subst f3
       clear hf
       go_wp2_with (fail)
       exact RQ.mk rfl ⟨(by first | rfl | (simp [FS27_6_33]; done) | (simp [FS27_6_33, *]; done) | (simp [FS27_6_33, gotV]; done) | (simp [FS27_6_33, gotV]; omega)), fun h => absurd h (by decide)⟩ (Below.refl _ _)
      | 8, _ =>
       injection ho with ho
       subst ho
       clear hl
       simp only [fillA, List.take, List.drop, put_none, Act.put, List.setIfInBounds_toArray, List.set_cons_zero, List.set_cons_succ, Nat.reduceAdd]
       have f3 := hf 3 (by decide) (by kernel_rfl)
       generalize vals 3 = v3 at *
       subst f3
       have f7 := hf 7 (by decide) (by kernel_rfl)
       generalize vals 7 = v7 at *
       subst f7
       clear hf
       go_wp2_with (fail)
       exact RQ.mk rfl ⟨(by first | rfl | (simp [FS27_6_33]; done) | (simp [FS27_6_33, *]; done) | (simp [FS27_6_33, gotV]; done) | (simp [FS27_6_33, gotV]; omega)), fun h => absurd h (by decide)⟩ (Below.refl _ _)
      | 9, _ =>
       injection ho with ho
       subst ho
       clear hl
       simp only [fillA, List.take, List.drop, put_none, Act.put, List.setIfInBounds_toArray, List.set_cons_zero, List.set_cons_succ, Nat.reduceAdd]
       have f8 := hf 8 (by decide) (by kernel_rfl)
       generalize vals 8 = v8 at *
       subst f8
       have f6 := hf 6 (by decide) (by kernel_rfl)
       generalize vals 6 = v6 at *
       subst f6
       clear hf
       go_wp2_with (fail)
       exact RQ.mk rfl ⟨(by first | rfl | (simp [FS27_6_33]; done) | (simp [FS27_6_33, *]; done) | (simp [FS27_6_33, gotV]; done) | (simp [FS27_6_33, gotV]; omega)), fun h => absurd h (by decide)⟩ (Below.refl _ _)
      | 10, _ =>
       injection ho with ho
       subst ho
       clear hl
       simp only [fillA, List.take, List.drop, put_none, Act.put, List.setIfInBounds_toArray, List.set_cons_zero, List.set_cons_succ, Nat.reduceAdd]
       have f9 := hf 9 (by decide) (by kernel_rfl)
       generalize vals 9 = v9 at *
       subst f9
       clear hf
       go_wp2_with (fail)
       exact RQ.mk rfl ⟨(by first | rfl | (simp [FS27_6_33]; done) | (simp [FS27_6_33, *]; done) | (simp [FS27_6_33, gotV]; done) | (simp [FS27_6_33, gotV]; omega)), fun h => absurd h (by decide)⟩ (Below.refl _ _)
      | 11, _ =>
       injection ho with ho
       subst ho
       clear hl
       simp only [fillA, List.take, List.drop, put_none, Act.put, List.setIfInBounds_toArray, List.set_cons_zero, List.set_cons_succ, Nat.reduceAdd]
       have f10 := hf 10 (by decide) (by kernel_rfl)
       generalize vals 10 = v10 at *
       subst f10
       have f9 := hf 9 (by decide) (by kernel_rfl)
       generalize vals 9 = v9 at *
       subst f9
       clear hf
       go_wp2_with (fail)
       exact RQ.mk rfl ⟨(by first | rfl | (simp [FS27_6_33]; done) | (simp [FS27_6_33, *]; done) | (simp [FS27_6_33, gotV]; done) | (simp [FS27_6_33, gotV]; omega)), fun h => absurd h (by decide)⟩ (Below.refl _ _)
      | 12, _ =>
       injection ho with ho
       subst ho
       clear hl
       simp only [fillA, List.take, List.drop, put_none, Act.put, List.setIfInBounds_toArray, List.set_cons_zero, List.set_cons_succ, Nat.reduceAdd]
       have f11 := hf 11 (by decide) (by kernel_rfl)
       generalize vals 11 = v11 at *
       subst f11
       have f9 := hf 9 (by decide) (by kernel_rfl)
       generalize vals 9 = v9 at *
       subst f9
       clear hf
       go_wp2_with (fail)
       exact RQ.mk rfl ⟨(by first | rfl | (simp [FS27_6_33]; done) | (simp [FS27_6_33, *]; done) | (simp [FS27_6_33, gotV]; done) | (simp [FS27_6_33, gotV]; omega)), fun h => absurd h (by decide)⟩ (Below.refl _ _)
      | 13, _ =>
       injection ho with ho
       subst ho
       clear hl
       simp only [fillA, List.take, List.drop, put_none, Act.put, List.setIfInBounds_toArray, List.set_cons_zero, List.set_cons_succ, Nat.reduceAdd]
       have f12 := hf 12 (by decide) (by kernel_rfl)
       generalize vals 12 = v12 at *
       subst f12
       clear hf
       go_wp2_with (fail)
       exact RQ.mk rfl ⟨(by first | rfl | (simp [FS27_6_33]; done) | (simp [FS27_6_33, *]; done) | (simp [FS27_6_33, gotV]; done) | (simp [FS27_6_33, gotV]; omega)), fun h => absurd h (by decide)⟩ (Below.refl _ _)
      | 14, _ =>
       injection ho with ho
       subst ho
       clear hl
       simp only [fillA, List.take, List.drop, put_none, Act.put, List.setIfInBounds_toArray, List.set_cons_zero, List.set_cons_succ, Nat.reduceAdd]
       have f12 := hf 12 (by decide) (by kernel_rfl)
       generalize vals 12 = v12 at *
       subst f12
       clear hf
       go_wp2_with (fail)
       exact RQ.mk rfl ⟨(by first | rfl | (simp [FS27_6_33]; done) | (simp [FS27_6_33, *]; done) | (simp [FS27_6_33, gotV]; done) | (simp [FS27_6_33, gotV]; omega)), fun h => absurd h (by decide)⟩ (Below.refl _ _)
      | 15, _ =>
       injection ho with ho
       subst ho
       clear hl
       simp only [fillA, List.take, List.drop, put_none, Act.put, List.setIfInBounds_toArray, List.set_cons_zero, List.set_cons_succ, Nat.reduceAdd]
       have f12 := hf 12 (by decide) (by kernel_rfl)
       generalize vals 12 = v12 at *
       subst f12
       clear hf
       go_wp2_with (fail)
       exact RQ.mk rfl ⟨(by first | rfl | (simp [FS27_6_33]; done) | (simp [FS27_6_33, *]; done) | (simp [FS27_6_33, gotV]; done) | (simp [FS27_6_33, gotV]; omega)), fun h => absurd h (by decide)⟩ (Below.refl _ _)
      | 16, _ =>
       injection ho with ho
       subst ho
       clear hl
       simp only [fillA, List.take, List.drop, put_none, Act.put, List.setIfInBounds_toArray, List.set_cons_zero, List.set_cons_succ, Nat.reduceAdd]
       have f15 := hf 15 (by decide) (by kernel_rfl)
       generalize vals 15 = v15 at *
       subst f15
       have f12 := hf 12 (by decide) (by kernel_rfl)
       generalize vals 12 = v12 at *
       subst f12
       clear hf
       go_wp2_with (fail)
       exact RQ.mk rfl ⟨(by first | rfl | (simp [FS27_6_33]; done) | (simp [FS27_6_33, *]; done) | (simp [FS27_6_33, gotV]; done) | (simp [FS27_6_33, gotV]; omega)), fun h => absurd h (by decide)⟩ (Below.refl _ _)
      | 17, _ =>
       injection ho with ho
       subst ho
       clear hl
       simp only [fillA, List.take, List.drop, put_none, Act.put, List.setIfInBounds_toArray, List.set_cons_zero, List.set_cons_succ, Nat.reduceAdd]
       have f14 := hf 14 (by decide) (by kernel_rfl)
       generalize vals 14 = v14 at *
       subst f14
       have f16 := hf 16 (by decide) (by kernel_rfl)
       generalize vals 16 = v16 at *
       subst f16
       have f12 := hf 12 (by decide) (by kernel_rfl)
       generalize vals 12 = v12 at *
       subst f12
       clear hf
       go_wp2_with (fail)
       exact RQ.mk rfl ⟨(by first | rfl | (simp [FS27_6_33]; done) | (simp [FS27_6_33, *]; done) | (simp [FS27_6_33, gotV]; done) | (simp [FS27_6_33, gotV]; omega)), fun h => absurd h (by decide)⟩ (Below.refl _ _)
      | 18, _ =>
       injection ho with ho
       subst ho
       clear hl
       simp only [fillA, List.take, List.drop, put_none, Act.put, List.setIfInBounds_toArray, List.set_cons_zero, List.set_cons_succ, Nat.reduceAdd]
       have f17 := hf 17 (by decide) (by kernel_rfl)
       generalize vals 17 = v17 at *
       subst f17
       have f12 := hf 12 (by decide) (by kernel_rfl)
       generalize vals 12 = v12 at *
       subst f12
       clear hf
       have hc1 := cellOf hb1
       have hf1 := frozOf hb1
       have hz1 := sizeOf hb1
       try simp at hz1
       go_wp2_with (fail)
       exact RQ.mk rfl ⟨(by first | rfl | (simp [FS27_6_33]; done) | (simp [FS27_6_33, *]; done) | (simp [FS27_6_33, gotV]; done) | (simp [FS27_6_33, gotV]; omega)), fun h => absurd h (by decide)⟩ (Below.refl _ _)
      | 19, _ =>
       injection ho with ho
       subst ho
       clear hl
       simp only [fillA, List.take, List.drop, put_none, Act.put, List.setIfInBounds_toArray, List.set_cons_zero, List.set_cons_succ, Nat.reduceAdd]
       have f13 := hf 13 (by decide) (by kernel_rfl)
       generalize vals 13 = v13 at *
       subst f13
       have f18 := hf 18 (by decide) (by kernel_rfl)
       generalize vals 18 = v18 at *
       subst f18
       have f12 := hf 12 (by decide) (by kernel_rfl)
       generalize vals 12 = v12 at *
       subst f12
       clear hf
       go_wp2_with (fail)
       exact RQ.mk rfl ⟨(by first | rfl | (simp [FS27_6_33]; done) | (simp [FS27_6_33, *]; done) | (simp [FS27_6_33, gotV]; done) | (simp [FS27_6_33, gotV]; omega)), fun h => absurd h (by decide)⟩ (Below.refl _ _)
      | 20, _ =>
       injection ho with ho
       subst ho
       clear hl
       simp only [fillA, List.take, List.drop, put_none, Act.put, List.setIfInBounds_toArray, List.set_cons_zero, List.set_cons_succ, Nat.reduceAdd]
       have f12 := hf 12 (by decide) (by kernel_rfl)
       generalize vals 12 = v12 at *
       subst f12
       clear hf
       go_wp2_with (fail)
       exact RQ.mk rfl ⟨(by first | rfl | (simp [FS27_6_33]; done) | (simp [FS27_6_33, *]; done) | (simp [FS27_6_33, gotV]; done) | (simp [FS27_6_33, gotV]; omega)), fun h => absurd h (by decide)⟩ (Below.refl _ _)
      | 21, _ =>
       injection ho with ho
       subst ho
       clear hl
       simp only [fillA, List.take, List.drop, put_none, Act.put, List.setIfInBounds_toArray, List.set_cons_zero, List.set_cons_succ, Nat.reduceAdd]
       have f20 := hf 20 (by decide) (by kernel_rfl)
       generalize vals 20 = v20 at *
       subst f20
       have f12 := hf 12 (by decide) (by kernel_rfl)
       generalize vals 12 = v12 at *
       subst f12
       clear hf
       have hc1 := cellOf hb1
       have hf1 := frozOf hb1
       have hz1 := sizeOf hb1
       try simp at hz1
       go_wp2_with (fail)
       exact RQ.mk rfl ⟨(by first | rfl | (simp [FS27_6_33]; done) | (simp [FS27_6_33, *]; done) | (simp [FS27_6_33, gotV]; done) | (simp [FS27_6_33, gotV]; omega)), fun h => absurd h (by decide)⟩ (Below.refl _ _)
      | 22, _ =>
       injection ho with ho
       subst ho
       clear hl
       simp only [fillA, List.take, List.drop, put_none, Act.put, List.setIfInBounds_toArray, List.set_cons_zero, List.set_cons_succ, Nat.reduceAdd]
       have f19 := hf 19 (by decide) (by kernel_rfl)
       generalize vals 19 = v19 at *
       subst f19
       have f21 := hf 21 (by decide) (by kernel_rfl)
       generalize vals 21 = v21 at *
       subst f21
       have f12 := hf 12 (by decide) (by kernel_rfl)
       generalize vals 12 = v12 at *
       subst f12
       clear hf
       go_wp2_with (fail)
       exact RQ.mk rfl ⟨(by first | rfl | (simp [FS27_6_33]; done) | (simp [FS27_6_33, *]; done) | (simp [FS27_6_33, gotV]; done) | (simp [FS27_6_33, gotV]; omega)), fun h => absurd h (by decide)⟩ (Below.refl _ _)
      | 23, _ =>
       injection ho with ho
       subst ho
       clear hl
       simp only [fillA, List.take, List.drop, put_none, Act.put, List.setIfInBounds_toArray, List.set_cons_zero, List.set_cons_succ, Nat.reduceAdd]
       have f12 := hf 12 (by decide) (by kernel_rfl)
       generalize vals 12 = v12 at *
       subst f12
       have f22 := hf 22 (by decide) (by kernel_rfl)
       generalize vals 22 = v22 at *
       subst f22
       have f9 := hf 9 (by decide) (by kernel_rfl)
       generalize vals 9 = v9 at *
       subst f9
       clear hf
       go_wp2_with (fail)
       exact RQ.mk rfl ⟨(by first | rfl | (simp [FS27_6_33]; done) | (simp [FS27_6_33, *]; done) | (simp [FS27_6_33, gotV]; done) | (simp [FS27_6_33, gotV]; omega)), fun h => absurd h (by decide)⟩ (Below.refl _ _)
      | 24, _ =>
       injection ho with ho
       subst ho
       clear hl
       simp only [fillA, List.take, List.drop, put_none, Act.put, List.setIfInBounds_toArray, List.set_cons_zero, List.set_cons_succ, Nat.reduceAdd]
       have f9 := hf 9 (by decide) (by kernel_rfl)
       generalize vals 9 = v9 at *
       subst f9
       have f23 := hf 23 (by decide) (by kernel_rfl)
       generalize vals 23 = v23 at *
       subst f23
       clear hf
       go_wp2_with (fail)
       exact RQ.mk rfl ⟨(by first | rfl | (simp [FS27_6_33]; done) | (simp [FS27_6_33, *]; done) | (simp [FS27_6_33, gotV]; done) | (simp [FS27_6_33, gotV]; omega)), fun h => absurd h (by decide)⟩ (Below.refl _ _)
      | m + 25, h => exact absurd h (by omega)
     ·intro vals w1 hb1 hf hd
      simp only [fillA, List.take, List.drop, put_none, Act.put, List.setIfInBounds_toArray, List.set_cons_zero, List.set_cons_succ, Nat.reduceAdd]
      clear hd
      have f0 := hf 0 (by decide)
      generalize vals 0 = v0 at *
      subst f0
      have f1 := hf 1 (by decide)
      generalize vals 1 = v1 at *
      subst f1
      have f2 := hf 2 (by decide)
      generalize vals 2 = v2 at *
      subst f2
      have f3 := hf 3 (by decide)
      generalize vals 3 = v3 at *
      subst f3
      have f4 := hf 4 (by decide)
      generalize vals 4 = v4 at *
      subst f4
      have f5 := hf 5 (by decide)
      generalize vals 5 = v5 at *
      subst f5
      have f6 := hf 6 (by decide)
      generalize vals 6 = v6 at *
      subst f6
      have f7 := hf 7 (by decide)
      generalize vals 7 = v7 at *
      subst f7
      have f8 := hf 8 (by decide)
      generalize vals 8 = v8 at *
      subst f8
      have f9 := hf 9 (by decide)
      generalize vals 9 = v9 at *
      subst f9
      have f10 := hf 10 (by decide)
      generalize vals 10 = v10 at *
      subst f10
      have f11 := hf 11 (by decide)
      generalize vals 11 = v11 at *
      subst f11
      have f12 := hf 12 (by decide)
      generalize vals 12 = v12 at *
      subst f12
      have f13 := hf 13 (by decide)
      generalize vals 13 = v13 at *
      subst f13
      have f14 := hf 14 (by decide)
      generalize vals 14 = v14 at *
      subst f14
      have f15 := hf 15 (by decide)
      generalize vals 15 = v15 at *
      subst f15
      have f16 := hf 16 (by decide)
      generalize vals 16 = v16 at *
      subst f16
      have f17 := hf 17 (by decide)
      generalize vals 17 = v17 at *
      subst f17
      have f18 := hf 18 (by decide)
      generalize vals 18 = v18 at *
      subst f18
      have f19 := hf 19 (by decide)
      generalize vals 19 = v19 at *
      subst f19
      have f20 := hf 20 (by decide)
      generalize vals 20 = v20 at *
      subst f20
      have f21 := hf 21 (by decide)
      generalize vals 21 = v21 at *
      subst f21
      have f22 := hf 22 (by decide)
      generalize vals 22 = v22 at *
      subst f22
      have f23 := hf 23 (by decide)
      generalize vals 23 = v23 at *
      subst f23
      have f24 := hf 24 (by decide)
      generalize vals 24 = v24 at *
      subst f24
      clear hf
      have hc1 := cellOf hb1
      have hf1 := frozOf hb1
      have hz1 := sizeOf hb1
      try simp at hz1
      go_wp2_with (fail)
      go_roundw
      case rel =>
       refine ⟨k + 2, by omega, by go_num, fun j hj => ?_, ?_, ?_, ?_, ?_, by (repeat' (first | exact Below.refl _ _ | assumption | refine Below.setCell ?_ ?_ _ | refine Below.drew ?_ | refine Below.alloc ?_ ?_ _ | refine Below.trans ?_ (Below.mono (by assumption) ?_) | (simp; done) | (simp; omega) | omega))⟩
       ·rcases Nat.lt_or_ge j (k + 1) with h | h
        ·exact HL.out j h
        ·obtain rfl : j = k + 1 := by omega
         rw [HV.out, HG.out, H2.out]; rfl
       all_goals first | (simp [go_sem, ↓IntWalk.iteOmega, *]; done) | (simp [go_sem, ↓IntWalk.iteOmega, *]; omega) | omega
      case measure => simp [intOf]; omega
  ·obtain rfl : k = pl.length := by omega
   have hops := opsB_all hl
   have hpm := opsB_P hdb.1 hops
   have HV := hid (show planB d xs rs p pl = !((waitsL rs pl).any (outP p)) by rw [planB_eq hs0 hops, serv_any, waitsL_eq hdb.1 hops hrm])
   have hwl : (waitsL rs pl).length = rs.length := by simp [waitsL]
   have HWL := hid hwl
   have hwl2 : (waitsL rs pl).length ≤ 8 := by omega
   clear hl hwl
   go_wp2_with (first | (go_at_call 65; refine (c_impl_waits _ _ rs pl _ _ _ (by first | assumption | exact Rds.below hr (by (repeat' (first | exact Below.refl _ _ | assumption | refine Below.setCell ?_ ?_ _ | refine Below.drew ?_ | refine Below.alloc ?_ ?_ _ | refine Below.trans ?_ (Below.mono (by assumption) ?_) | (simp; done) | (simp; omega) | omega)))) (by first | assumption | exact Rds.below hq (by (repeat' (first | exact Below.refl _ _ | assumption | refine Below.setCell ?_ ?_ _ | refine Below.drew ?_ | refine Below.alloc ?_ ?_ _ | refine Below.trans ?_ (Below.mono (by assumption) ?_) | (simp; done) | (simp; omega) | omega)))) (by omega) (by omega) hrm hpm).mono ?_; rintro e w' ⟨A9, cp9, rfl, hF9, hb⟩; have hr9 := hF9.rds; clear hF9; have hc := cellOf hb; have hf := frozOf hb; have hz := sizeOf hb; try simp at hz) | (go_at_call 64; refine (c_has_out _ (waitsL rs pl) _ p (w.heap.size + 1) _ (by first | assumption | exact Rds.below hr9 (by (repeat' (first | exact Below.refl _ _ | assumption | refine Below.setCell ?_ ?_ _ | refine Below.drew ?_ | refine Below.alloc ?_ ?_ _ | refine Below.trans ?_ (Below.mono (by assumption) ?_) | (simp; done) | (simp; omega) | omega)))) (by omega) (by first | assumption | (simp [go_sem, ↓IntWalk.iteOmega, *]; done)) (by first | omega | (simp; done) | (simp; omega))).mono ?_; rintro e w' ⟨rfl, hb⟩; have hc := cellOf hb; have hf := frozOf hb; have hz := sizeOf hb; try simp at hz))
   all_goals go_ret
   all_goals exact ⟨ret_bool (by rw [HV.out]), by (repeat' (first | exact Below.refl _ _ | assumption | refine Below.setCell ?_ ?_ _ | refine Below.drew ?_ | refine Below.alloc ?_ ?_ _ | refine Below.trans ?_ (Below.mono (by assumption) ?_) | (simp; done) | (simp; omega) | omega))⟩

end Go.Proofs.Yteciijnpfapmhaa
namespace Go.Proofs.Yteciijnpfapmhaa
set_option linter.unusedSimpArgs false
set_option linter.unusedVariables false
open Go.RowKit

set_option maxRecDepth 100000 in
set_option maxHeartbeats 4000000 in
theorem c_impl_lastOpening (d : Int) (A : Option Addr) (xs : List (Int × Int)) (n cap : Nat) (f t : Int) (w : World) (hx : Rds cIv 2 w A xs) (hxl : xs.length = n) (hn : xs.length ≤ 9223372036854775807) (hok : ∀ k (hk : k < xs.length), ivP xs[k]) (hd : 1 ≤ d ∧ d ≤ 30) (hft : 0 ≤ f ∧ f ≤ 99999 ∧ -1 ≤ t ∧ t ≤ 99999) :
  Calls Try.prog 60 #[.agg #[.int .i64 d, .slice A n cap], .int .i64 f, .int .i64 t] w fun e w' => e = .returned (.tuple #[.int .i64 (lastR (lastF d xs f t)).1, .bool (lastR (lastF d xs f t)).2]) ∧ Below w.heap.size w w' := by
 subst hxl
 go_enter Try.func60, Try.ntmps60
 go_wp2_with (fail)
 go_loopw [8] (fun p wr => ∃ j : Nat, p = .int .i64 (t - (j : Int)) ∧ -1 ≤ t - (j : Int) ∧ (∀ v : Int, t - (j : Int) < v → v ≤ t → mayB d xs v = false) ∧ wr.cell? ⟨w.heap.size, 0, none⟩ = some (.int .i64 d) ∧ wr.cell? ⟨w.heap.size, 1, none⟩ = some (.slice A xs.length cap) ∧ w.heap.size + 1 ≤ wr.heap.size ∧ Below w.heap.size w wr) (fun p _ => (intOf p - f + 1).toNat)
 case atStart =>
  refine ⟨0, by simp, by omega, fun v h1 h2 => absurd h1 (by omega), ?_, ?_, ?_, by (repeat' (first | exact Below.refl _ _ | assumption | refine Below.setCell ?_ ?_ _ | refine Below.drew ?_ | refine Below.alloc ?_ ?_ _ | refine Below.trans ?_ (Below.mono (by assumption) ?_) | (simp; done) | (simp; omega) | omega))⟩
  all_goals first | (simp [go_sem, ↓IntWalk.iteOmega, *]; done) | (simp at *; omega)
 case round =>
  obtain ⟨j, rfl, hj, hl, hp0, hp1, hzz, hbr⟩ := hrel
  have hc := cellOf hbr
  have hf := frozOf hbr
  have hz := sizeOf hbr
  have hp0' : far wr w.heap.size 0 = _ := hp0
  have hp1' : far wr w.heap.size 1 = _ := hp1
  have HL := hid hl
  clear hl
  by_cases hlt : f ≤ t - (j : Int)
  rotate_left
  ·have HE := hid (lastF_none (d := d) (xs := xs) (f := f) (t := t) (fun v h1 h2 => HL.out v (by omega) h2))
   go_wp2_with (fail)
   go_ret2
   exact ⟨by first | (rw [HE.out]; done) | (rw [HE.out]; rfl), by (repeat' (first | exact Below.refl _ _ | assumption | refine Below.setCell ?_ ?_ _ | refine Below.drew ?_ | refine Below.alloc ?_ ?_ _ | refine Below.trans ?_ (Below.mono (by assumption) ?_) | (simp; done) | (simp; omega) | omega))⟩
  by_cases hm : mayB d xs (t - (j : Int)) = true
  ·have HE := hid (lastF_hit (f := f) hlt (by omega) HL.out hm)
   go_wp2_with (first | (go_at_call 58; refine (c_impl_mayOpen _ _ _ _ _ _ _ (by first | assumption | exact Rds.below hx (by (repeat' (first | exact Below.refl _ _ | assumption | refine Below.setCell ?_ ?_ _ | refine Below.drew ?_ | refine Below.alloc ?_ ?_ _ | refine Below.trans ?_ (Below.mono (by assumption) ?_) | (simp; done) | (simp; omega) | omega)))) rfl (by omega) hok (by omega) (by omega)).mono ?_; rintro e w' ⟨rfl, hb⟩; have hc := cellOf hb; have hf := frozOf hb; have hz := sizeOf hb; try simp at hz))
   go_ret2
   exact ⟨by first | (rw [HE.out]; done) | (rw [HE.out]; rfl), by (repeat' (first | exact Below.refl _ _ | assumption | refine Below.setCell ?_ ?_ _ | refine Below.drew ?_ | refine Below.alloc ?_ ?_ _ | refine Below.trans ?_ (Below.mono (by assumption) ?_) | (simp; done) | (simp; omega) | omega))⟩
  ·have hmf : mayB d xs (t - (j : Int)) = false := by simpa using hm
   have HM := hid hmf
   clear hm
   go_wp2_with (first | (go_at_call 58; refine (c_impl_mayOpen _ _ _ _ _ _ _ (by first | assumption | exact Rds.below hx (by (repeat' (first | exact Below.refl _ _ | assumption | refine Below.setCell ?_ ?_ _ | refine Below.drew ?_ | refine Below.alloc ?_ ?_ _ | refine Below.trans ?_ (Below.mono (by assumption) ?_) | (simp; done) | (simp; omega) | omega)))) rfl (by omega) hok (by omega) (by omega)).mono ?_; rintro e w' ⟨rfl, hb⟩; have hc := cellOf hb; have hf := frozOf hb; have hz := sizeOf hb; try simp at hz))
   go_roundw
   case rel =>
    refine ⟨j + 1, by go_num, by omega, fun v h1 h2 => ?_, ?_, ?_, ?_, by (repeat' (first | exact Below.refl _ _ | assumption | refine Below.setCell ?_ ?_ _ | refine Below.drew ?_ | refine Below.alloc ?_ ?_ _ | refine Below.trans ?_ (Below.mono (by assumption) ?_) | (simp; done) | (simp; omega) | omega))⟩
    ·by_cases hyj : t - (j : Int) < v
     ·exact HL.out v hyj h2
     ·obtain rfl : v = t - (j : Int) := by omega
      exact HM.out
    all_goals first | (simp [go_sem, ↓IntWalk.iteOmega, *]; done) | omega | (simp [go_sem, ↓IntWalk.iteOmega, *]; omega)
   case measure => simp [intOf]; omega

set_option maxRecDepth 100000 in
set_option maxHeartbeats 4000000 in
theorem c_impl_LastOpening (d : Int) (A : Option Addr) (xs : List (Int × Int)) (cap : Nat) (f t : Int) (w : World) (hx : Rds cIv 2 w A xs) (hn : xs.length ≤ 9223372036854775807) :
  Calls Try.prog 24 #[.agg #[.int .i64 d, .slice A xs.length cap], .int .i64 f, .int .i64 t] w fun e w' => e = .returned (.tuple #[.int .i64 (lastV d xs f t).1, .bool (lastV d xs f t).2]) ∧ Below w.heap.size w w' := by
 by_cases hs0 : brB d xs = true
 rotate_left
 ·have hn0 : brB d xs = false := Bool.eq_false_iff.2 hs0
  have HV := hid (show lastV d xs f t = (0, false) by simp [lastV, hn0])
  clear hs0
  go_enter Try.func24, Try.ntmps24
  go_wp2_with (first | (go_at_call 17; refine (c_impl_IsValidBridge _ _ _ _ _ (by first | assumption | exact Rds.below hx (by (repeat' (first | exact Below.refl _ _ | assumption | refine Below.setCell ?_ ?_ _ | refine Below.drew ?_ | refine Below.alloc ?_ ?_ _ | refine Below.trans ?_ (Below.mono (by assumption) ?_) | (simp; done) | (simp; omega) | omega)))) (by omega)).mono ?_; rintro e w' ⟨rfl, hb⟩; have hc := cellOf hb; have hf := frozOf hb; have hz := sizeOf hb; try simp at hz) | (go_at_call 57; refine (c_impl_isMinute _ _ ).mono ?_; rintro e w' ⟨rfl, hb⟩; have hc := cellOf hb; have hf := frozOf hb; have hz := sizeOf hb; try simp at hz))
  all_goals go_ret2
  all_goals exact ⟨by first | (rw [HV.out]; done) | (rw [HV.out]; rfl), by (repeat' (first | exact Below.refl _ _ | assumption | refine Below.setCell ?_ ?_ _ | refine Below.drew ?_ | refine Below.alloc ?_ ?_ _ | refine Below.trans ?_ (Below.mono (by assumption) ?_) | (simp; done) | (simp; omega) | omega))⟩
 by_cases hs1 : minB f = true
 rotate_left
 ·have hn1 : minB f = false := Bool.eq_false_iff.2 hs1
  have HV := hid (show lastV d xs f t = (0, false) by simp [lastV, hn1])
  clear hs1
  go_enter Try.func24, Try.ntmps24
  go_wp2_with (first | (go_at_call 17; refine (c_impl_IsValidBridge _ _ _ _ _ (by first | assumption | exact Rds.below hx (by (repeat' (first | exact Below.refl _ _ | assumption | refine Below.setCell ?_ ?_ _ | refine Below.drew ?_ | refine Below.alloc ?_ ?_ _ | refine Below.trans ?_ (Below.mono (by assumption) ?_) | (simp; done) | (simp; omega) | omega)))) (by omega)).mono ?_; rintro e w' ⟨rfl, hb⟩; have hc := cellOf hb; have hf := frozOf hb; have hz := sizeOf hb; try simp at hz) | (go_at_call 57; refine (c_impl_isMinute _ _ ).mono ?_; rintro e w' ⟨rfl, hb⟩; have hc := cellOf hb; have hf := frozOf hb; have hz := sizeOf hb; try simp at hz))
  all_goals go_ret2
  all_goals exact ⟨by first | (rw [HV.out]; done) | (rw [HV.out]; rfl), by (repeat' (first | exact Below.refl _ _ | assumption | refine Below.setCell ?_ ?_ _ | refine Below.drew ?_ | refine Below.alloc ?_ ?_ _ | refine Below.trans ?_ (Below.mono (by assumption) ?_) | (simp; done) | (simp; omega) | omega))⟩
 by_cases hs2 : minB t = true
 rotate_left
 ·have hn2 : minB t = false := Bool.eq_false_iff.2 hs2
  have HV := hid (show lastV d xs f t = (0, false) by simp [lastV, hn2])
  clear hs2
  go_enter Try.func24, Try.ntmps24
  go_wp2_with (first | (go_at_call 17; refine (c_impl_IsValidBridge _ _ _ _ _ (by first | assumption | exact Rds.below hx (by (repeat' (first | exact Below.refl _ _ | assumption | refine Below.setCell ?_ ?_ _ | refine Below.drew ?_ | refine Below.alloc ?_ ?_ _ | refine Below.trans ?_ (Below.mono (by assumption) ?_) | (simp; done) | (simp; omega) | omega)))) (by omega)).mono ?_; rintro e w' ⟨rfl, hb⟩; have hc := cellOf hb; have hf := frozOf hb; have hz := sizeOf hb; try simp at hz) | (go_at_call 57; refine (c_impl_isMinute _ _ ).mono ?_; rintro e w' ⟨rfl, hb⟩; have hc := cellOf hb; have hf := frozOf hb; have hz := sizeOf hb; try simp at hz))
  all_goals go_ret2
  all_goals exact ⟨by first | (rw [HV.out]; done) | (rw [HV.out]; rfl), by (repeat' (first | exact Below.refl _ _ | assumption | refine Below.setCell ?_ ?_ _ | refine Below.drew ?_ | refine Below.alloc ?_ ?_ _ | refine Below.trans ?_ (Below.mono (by assumption) ?_) | (simp; done) | (simp; omega) | omega))⟩
 have hfb := minB_bd hs1
 have htb := minB_bd hs2
 have hdb := brB_dur hs0
 have hok := brB_P hs0
 have HV := hid (show lastV d xs f t = lastR (lastF d xs f t) by simp [lastV, hs0, hs1, hs2])
 cases hlf : lastF d xs f t with
 | none =>
  rw [hlf] at HV
  go_enter Try.func24, Try.ntmps24
  go_wp2_with (first | (first | (go_at_call 17; refine (c_impl_IsValidBridge _ _ _ _ _ (by first | assumption | exact Rds.below hx (by (repeat' (first | exact Below.refl _ _ | assumption | refine Below.setCell ?_ ?_ _ | refine Below.drew ?_ | refine Below.alloc ?_ ?_ _ | refine Below.trans ?_ (Below.mono (by assumption) ?_) | (simp; done) | (simp; omega) | omega)))) (by omega)).mono ?_; rintro e w' ⟨rfl, hb⟩; have hc := cellOf hb; have hf := frozOf hb; have hz := sizeOf hb; try simp at hz) | (go_at_call 57; refine (c_impl_isMinute _ _ ).mono ?_; rintro e w' ⟨rfl, hb⟩; have hc := cellOf hb; have hf := frozOf hb; have hz := sizeOf hb; try simp at hz)) | (go_at_call 60; refine (c_impl_lastOpening _ _ _ _ _ _ _ _ (by first | assumption | exact Rds.below hx (by (repeat' (first | exact Below.refl _ _ | assumption | refine Below.setCell ?_ ?_ _ | refine Below.drew ?_ | refine Below.alloc ?_ ?_ _ | refine Below.trans ?_ (Below.mono (by assumption) ?_) | (simp; done) | (simp; omega) | omega)))) rfl (by omega) hok (by omega) (by omega)).mono ?_; simp only [hlf, lastR, lastI]; rintro e w' ⟨rfl, hb⟩; have hc := cellOf hb; have hf := frozOf hb; have hz := sizeOf hb; try simp at hz))
  go_ret2
  exact ⟨by first | (rw [HV.out]; done) | (rw [HV.out]; rfl), by (repeat' (first | exact Below.refl _ _ | assumption | refine Below.setCell ?_ ?_ _ | refine Below.drew ?_ | refine Below.alloc ?_ ?_ _ | refine Below.trans ?_ (Below.mono (by assumption) ?_) | (simp; done) | (simp; omega) | omega))⟩
 | some u =>
  have hub := lastF_some hlf
  have hu0 : 0 ≤ u := by omega
  clear hub
  rw [hlf] at HV
  go_enter Try.func24, Try.ntmps24
  go_wp2_with (first | (first | (go_at_call 17; refine (c_impl_IsValidBridge _ _ _ _ _ (by first | assumption | exact Rds.below hx (by (repeat' (first | exact Below.refl _ _ | assumption | refine Below.setCell ?_ ?_ _ | refine Below.drew ?_ | refine Below.alloc ?_ ?_ _ | refine Below.trans ?_ (Below.mono (by assumption) ?_) | (simp; done) | (simp; omega) | omega)))) (by omega)).mono ?_; rintro e w' ⟨rfl, hb⟩; have hc := cellOf hb; have hf := frozOf hb; have hz := sizeOf hb; try simp at hz) | (go_at_call 57; refine (c_impl_isMinute _ _ ).mono ?_; rintro e w' ⟨rfl, hb⟩; have hc := cellOf hb; have hf := frozOf hb; have hz := sizeOf hb; try simp at hz)) | (go_at_call 60; refine (c_impl_lastOpening _ _ _ _ _ _ _ _ (by first | assumption | exact Rds.below hx (by (repeat' (first | exact Below.refl _ _ | assumption | refine Below.setCell ?_ ?_ _ | refine Below.drew ?_ | refine Below.alloc ?_ ?_ _ | refine Below.trans ?_ (Below.mono (by assumption) ?_) | (simp; done) | (simp; omega) | omega)))) rfl (by omega) hok (by omega) (by omega)).mono ?_; simp only [hlf, lastR, lastI]; rintro e w' ⟨rfl, hb⟩; have hc := cellOf hb; have hf := frozOf hb; have hz := sizeOf hb; try simp at hz))
  go_ret2
  exact ⟨by first | (rw [HV.out]; done) | (rw [HV.out]; rfl), by (repeat' (first | exact Below.refl _ _ | assumption | refine Below.setCell ?_ ?_ _ | refine Below.drew ?_ | refine Below.alloc ?_ ?_ _ | refine Below.trans ?_ (Below.mono (by assumption) ?_) | (simp; done) | (simp; omega) | omega))⟩

end Go.Proofs.Yteciijnpfapmhaa
namespace Go.Proofs.Yteciijnpfapmhaa
set_option linter.unusedSimpArgs false
set_option linter.unusedVariables false
open Go.RowKit

set_option maxRecDepth 100000 in
set_option maxHeartbeats 8000000 in
theorem c_impl_FewestOpenings (d : Int) (A : Option Addr) (xs : List (Int × Int)) (cap : Nat) (B : Option Addr) (rs : List Int) (capr : Nat) (p : Int) (w : World) (hx : Rds cIv 2 w A xs) (hn : xs.length ≤ 9223372036854775807) (hr : Rds cIn 1 w B rs) (hnr : rs.length ≤ 9223372036854775807) :
  Calls Try.prog 39 #[.agg #[.int .i64 d, .slice A xs.length cap], .slice B rs.length capr, .int .i64 p] w fun e w' => ∃ A' cap', e = .returned (.tuple #[.slice A' (fewV d xs rs p).1.length cap', .bool (fewV d xs rs p).2]) ∧ FreshA cIn 1 3 w.heap.size w' A' cap' (fewV d xs rs p).1 ∧ Below w.heap.size w w' := by
 obtain ⟨i0, hI0, hI1, hI2, hI3⟩ := info_parts info_In
 by_cases hs0 : reqB d xs rs p = true
 rotate_left
 ·have hn0 : reqB d xs rs p = false := Bool.eq_false_iff.2 hs0
  have HV := hid (fewV_no hn0)
  clear hs0
  go_enter Try.func39, Try.ntmps39
  go_wp2_with (first | (go_at_call 63; refine (c_impl_areRequests _ _ _ _ _ _ _ _ _ (by first | assumption | exact Rds.below hx (by (repeat' (first | exact Below.refl _ _ | assumption | refine Below.setCell ?_ ?_ _ | refine Below.drew ?_ | refine Below.alloc ?_ ?_ _ | refine Below.trans ?_ (Below.mono (by assumption) ?_) | (simp; done) | (simp; omega) | omega)))) (by omega) (by first | assumption | exact Rds.below hr (by (repeat' (first | exact Below.refl _ _ | assumption | refine Below.setCell ?_ ?_ _ | refine Below.drew ?_ | refine Below.alloc ?_ ?_ _ | refine Below.trans ?_ (Below.mono (by assumption) ?_) | (simp; done) | (simp; omega) | omega)))) (by omega)).mono ?_; rintro e w' ⟨rfl, hb⟩; have hc := cellOf hb; have hf := frozOf hb; have hz := sizeOf hb; try simp at hz))
  go_ret2
  simp only [HV.out]
  exact ⟨none, 0, rfl, .inl ⟨rfl, rfl, rfl⟩, by (repeat' (first | exact Below.refl _ _ | assumption | refine Below.setCell ?_ ?_ _ | refine Below.drew ?_ | refine Below.alloc ?_ ?_ _ | refine Below.trans ?_ (Below.mono (by assumption) ?_) | (simp; done) | (simp; omega) | omega))⟩
 have hbr0 := reqB_br hs0
 have hdb := brB_dur hbr0
 have hok := brB_P hbr0
 have hrm := reqB_P hs0
 have hrl := vB_len (reqB_v hs0)
 have hpb := reqB_p hs0
 go_enter Try.func39, Try.ntmps39
 go_wp2_with (first | (go_at_call 63; refine (c_impl_areRequests _ _ _ _ _ _ _ _ _ (by first | assumption | exact Rds.below hx (by (repeat' (first | exact Below.refl _ _ | assumption | refine Below.setCell ?_ ?_ _ | refine Below.drew ?_ | refine Below.alloc ?_ ?_ _ | refine Below.trans ?_ (Below.mono (by assumption) ?_) | (simp; done) | (simp; omega) | omega)))) (by omega) (by first | assumption | exact Rds.below hr (by (repeat' (first | exact Below.refl _ _ | assumption | refine Below.setCell ?_ ?_ _ | refine Below.drew ?_ | refine Below.alloc ?_ ?_ _ | refine Below.trans ?_ (Below.mono (by assumption) ?_) | (simp; done) | (simp; omega) | omega)))) (by omega)).mono ?_; rintro e w' ⟨rfl, hb⟩; have hc := cellOf hb; have hf := frozOf hb; have hz := sizeOf hb; try simp at hz))
 go_loopw [8, 9, 23] (fun v f i wr => ∃ (k : Nat) (A' : Option Addr) (cp : Nat) (out : List Int) (r : Int), k ≤ rs.length ∧ i = .int .i64 k ∧ v = .slice A' out.length cp ∧ f = .int .i64 r ∧ FreshA cIn 1 3 (w.heap.size + 1) wr A' cp out ∧ fewTo d xs p rs k = some (out, r) ∧ fewOk d out r ∧ out.length ≤ k ∧ wr.cell? ⟨w.heap.size, 0, none⟩ = some (.int .i64 d) ∧ wr.cell? ⟨w.heap.size, 1, none⟩ = some (.slice A xs.length cap) ∧ w.heap.size + 1 ≤ wr.heap.size ∧ Below w.heap.size w wr) (fun _ _ i _ => rs.length - (intOf i).toNat)
 case atStart =>
  refine ⟨0, _, _, [], 0, Nat.zero_le _, rfl, rfl, rfl, FreshA.new (by first | omega | (simp; omega) | (simp at *; omega)), rfl, fewOk_nil d, Nat.zero_le _, ?_, ?_, ?_, by (repeat' (first | exact Below.refl _ _ | assumption | refine Below.setCell ?_ ?_ _ | refine Below.drew ?_ | refine Below.alloc ?_ ?_ _ | refine Below.trans ?_ (Below.mono (by assumption) ?_) | (simp; done) | (simp; omega) | omega))⟩
  all_goals first | (simp [go_sem, ↓IntWalk.iteOmega, *]; done) | (simp at *; omega) | (simp [go_sem, ↓IntWalk.iteOmega, *]; omega)
 case round =>
  obtain ⟨k, A', cp, out, r, hk, rfl, rfl, rfl, hF, hT, hfo, hol, hp0, hp1, hzz, hbr⟩ := hrel
  have hlo := hF.lo
  have hhi := hF.hi
  have hc := cellOf hbr
  have hf := frozOf hbr
  have hz := sizeOf hbr
  have hp0' : far wr w.heap.size 0 = _ := hp0
  have hp1' : far wr w.heap.size 1 = _ := hp1
  by_cases hlt : k < rs.length
  rotate_left
  ·obtain rfl : k = rs.length := by omega
   have HV := hid (fewV_end hs0 hT)
   clear hT
   go_wp2_with (fail)
   go_ret2
   simp only [HV.out]
   exact ⟨_, _, rfl, hF.mono (by omega), by (repeat' (first | exact Below.refl _ _ | assumption | refine Below.setCell ?_ ?_ _ | refine Below.drew ?_ | refine Below.alloc ?_ ?_ _ | refine Below.trans ?_ (Below.mono (by assumption) ?_) | (simp; done) | (simp; omega) | omega))⟩
  obtain ⟨bx, ox, rfl, hbx, hcx⟩ := hr k rs[k] (List.getElem?_eq_getElem hlt)
  have hx0 := hcx 0 _ rfl
  simp only [Nat.add_zero, Nat.mul_one] at hx0
  have HN := hid (fewTo_next hlt hT)
  have hmb := hrm k hlt
  unfold minP at hmb
  have HZ := hid (fun e => fewV_stop (d := d) (xs := xs) (p := p) (rs := rs) (k := k + 1) (by omega) e)
  have HF := hid hF
  have HFO := hid hfo
  have hrb := hfo.2.2
  clear hcx hr hT hfo hrm
  obtain ⟨m, hmk⟩ : ∃ m, m = rs[k] := ⟨_, rfl⟩
  simp only [← hmk] at hx0 hmb HN
  clear hmk
  cases hq : out.length with
  | zero =>
   obtain rfl : out = [] := List.eq_nil_of_length_eq_zero hq
   have hno : ¬ 0 ≤ firstO ([] : List Int) m := by rw [firstO_nil]; omega
   have HNO := hid hno
   clear hq hno hF
   cases hlf : lastF d xs (max m r) (min (m + p) 9999) with
   | none =>
    have HV := hid (HZ.out (HN.out.trans (fewN_none HNO.out hlf)))
    clear HZ HN
    go_wp2_with (go_at_call 60; refine (c_impl_lastOpening _ _ xs _ _ _ _ _ (by first | assumption | exact Rds.below hx (by (repeat' (first | exact Below.refl _ _ | assumption | refine Below.setCell ?_ ?_ _ | refine Below.drew ?_ | refine Below.alloc ?_ ?_ _ | refine Below.trans ?_ (Below.mono (by assumption) ?_) | (simp; done) | (simp; omega) | omega)))) rfl (by omega) hok (by omega) (by omega)).mono ?_; simp only [hlf, lastR]; rintro e w' ⟨rfl, hb⟩; have hc := cellOf hb; have hf := frozOf hb; have hz := sizeOf hb; try simp at hz)
    go_ret2
    simp only [HV.out]
    exact ⟨none, 0, rfl, .inl ⟨rfl, rfl, rfl⟩, by (repeat' (first | exact Below.refl _ _ | assumption | refine Below.setCell ?_ ?_ _ | refine Below.drew ?_ | refine Below.alloc ?_ ?_ _ | refine Below.trans ?_ (Below.mono (by assumption) ?_) | (simp; done) | (simp; omega) | omega))⟩
   | some u =>
    have HS := hid (HN.out.trans (fewN_some HNO.out hlf))
    have hub := lastF_some hlf
    have hud := mayB_bd hub.2.2.1
    have hub2 : r ≤ u := by omega
    clear hub HZ HN
    go_wp2_with (first | (go_at_call 60; refine (c_impl_lastOpening _ _ xs _ _ _ _ _ (by first | assumption | exact Rds.below hx (by (repeat' (first | exact Below.refl _ _ | assumption | refine Below.setCell ?_ ?_ _ | refine Below.drew ?_ | refine Below.alloc ?_ ?_ _ | refine Below.trans ?_ (Below.mono (by assumption) ?_) | (simp; done) | (simp; omega) | omega)))) rfl (by omega) hok (by omega) (by omega)).mono ?_; simp only [hlf, lastR]; rintro e w' ⟨rfl, hb⟩; have hc := cellOf hb; have hf := frozOf hb; have hz := sizeOf hb; try simp at hz) | (at_builtin; refine wpList_push rfl (.tmp 54) (.tmp 56) 40 rfl 3 i0 _ 1 8 Try.underlying40 hI0 hI1 hI2 hI3 rfl (by decide) (fun _ => rfl) one_In ((w.heap.size + 1)) _ 0 cp (([] : List Int)) rfl rfl (HF.out.below (by (repeat' (first | exact Below.refl _ _ | assumption | refine Below.setCell ?_ ?_ _ | refine Below.drew ?_ | refine Below.alloc ?_ ?_ _ | refine Below.trans ?_ (Below.mono (by assumption) ?_) | (simp; done) | (simp; omega) | omega)))) (u) _ 1 rfl ?_ ?_ ?_ ?_ ?_; (refine news_In _ _ _ ?_ <;> simp [go_sem, ↓IntWalk.iteOmega]); (unfold maxLen; omega); omega; (simp; omega); intro A3 cp3 w3 hF3 hg3 hat3; have hc3 := cellGrown hg3 hlo hhi; have hf3 := frozGrown hg3 hlo hhi; have hs3 := hg3.size; (try simp at hs3); have hb3 := below_of_grown (B := w.heap.size) hg3 (hlo.mono (by omega)) (by simp; omega)))
    go_roundw
    case rel =>
     refine ⟨k + 1, A3, cp3, ([] : List Int) ++ [u], u + d, by omega, by go_num, by simp [List.length_nil], rfl, hF3, HS.out, fewOk_snoc HFO.out hdb.1 hub2 hud.2, by first | (simp [List.length_nil]; done) | (simp [List.length_nil]; omega), ?_, ?_, ?_, by (repeat' (first | exact Below.refl _ _ | assumption | refine Below.setCell ?_ ?_ _ | refine Below.drew ?_ | refine Below.alloc ?_ ?_ _ | refine Below.trans ?_ (Below.mono (by assumption) ?_) | (simp; done) | (simp; omega) | omega))⟩
     all_goals first | (simp [go_sem, ↓IntWalk.iteOmega, *]; done) | omega | (simp [go_sem, ↓IntWalk.iteOmega, *]; omega)
    case measure => simp [intOf]; omega
  | succ n =>
   have HQ := hid hq
   have HLE := hid (fewOk_last HFO.out hmb.1 n hq)
   have hy := hF.rds n out[n] (List.getElem?_eq_getElem (by omega))
   obtain ⟨by_, oy, rfl, hby, hcy⟩ := hy
   have hy0 := hcy 0 _ rfl
   simp only [Nat.add_zero, Nat.mul_one] at hy0
   have hyb := HFO.out.1 n (by omega)
   have hy0' : far wr by_ (oy + n) = _ := hy0
   have hbl : w.heap.size + 1 ≤ by_ := hlo _ rfl
   clear hcy hF
   generalize out[n] = y at *
   have hn8 : n ≤ 8 := by omega
   have hol2 : n + 1 ≤ k := by omega
   clear hol
   by_cases hmy : m ≤ y
   ·have HS := hid (HN.out.trans (fewN_skip (HLE.out.2 hmy)))
    clear hq
    go_wp2_with (fail)
    go_roundw
    case rel =>
     refine ⟨k + 1, _, cp, out, r, by omega, by go_num, by rw [HQ.out], rfl, HF.out.below (by (repeat' (first | exact Below.refl _ _ | assumption | refine Below.setCell ?_ ?_ _ | refine Below.drew ?_ | refine Below.alloc ?_ ?_ _ | refine Below.trans ?_ (Below.mono (by assumption) ?_) | (simp; done) | (simp; omega) | omega))), HS.out, HFO.out, by rw [HQ.out]; omega, ?_, ?_, ?_, by (repeat' (first | exact Below.refl _ _ | assumption | refine Below.setCell ?_ ?_ _ | refine Below.drew ?_ | refine Below.alloc ?_ ?_ _ | refine Below.trans ?_ (Below.mono (by assumption) ?_) | (simp; done) | (simp; omega) | omega))⟩
     all_goals first | (simp [go_sem, ↓IntWalk.iteOmega, *]; done) | omega | (simp [go_sem, ↓IntWalk.iteOmega, *]; omega)
    case measure => simp [intOf]; omega
   ·have hno : ¬ 0 ≤ firstO out m := fun e => hmy (HLE.out.1 e)
    have HNO := hid hno
    clear hno hq
    cases hlf : lastF d xs (max m r) (min (m + p) 9999) with
    | none =>
     have HV := hid (HZ.out (HN.out.trans (fewN_none HNO.out hlf)))
     clear HZ HN
     go_wp2_with (go_at_call 60; refine (c_impl_lastOpening _ _ xs _ _ _ _ _ (by first | assumption | exact Rds.below hx (by (repeat' (first | exact Below.refl _ _ | assumption | refine Below.setCell ?_ ?_ _ | refine Below.drew ?_ | refine Below.alloc ?_ ?_ _ | refine Below.trans ?_ (Below.mono (by assumption) ?_) | (simp; done) | (simp; omega) | omega)))) rfl (by omega) hok (by omega) (by omega)).mono ?_; simp only [hlf, lastR]; rintro e w' ⟨rfl, hb⟩; have hc := cellOf hb; have hf := frozOf hb; have hz := sizeOf hb; try simp at hz)
     go_ret2
     simp only [HV.out]
     exact ⟨none, 0, rfl, .inl ⟨rfl, rfl, rfl⟩, by (repeat' (first | exact Below.refl _ _ | assumption | refine Below.setCell ?_ ?_ _ | refine Below.drew ?_ | refine Below.alloc ?_ ?_ _ | refine Below.trans ?_ (Below.mono (by assumption) ?_) | (simp; done) | (simp; omega) | omega))⟩
    | some u =>
     have HS := hid (HN.out.trans (fewN_some HNO.out hlf))
     have hub := lastF_some hlf
     have hud := mayB_bd hub.2.2.1
     have hub2 : r ≤ u := by omega
     clear hub HZ HN
     go_wp2_with (first | (go_at_call 60; refine (c_impl_lastOpening _ _ xs _ _ _ _ _ (by first | assumption | exact Rds.below hx (by (repeat' (first | exact Below.refl _ _ | assumption | refine Below.setCell ?_ ?_ _ | refine Below.drew ?_ | refine Below.alloc ?_ ?_ _ | refine Below.trans ?_ (Below.mono (by assumption) ?_) | (simp; done) | (simp; omega) | omega)))) rfl (by omega) hok (by omega) (by omega)).mono ?_; simp only [hlf, lastR]; rintro e w' ⟨rfl, hb⟩; have hc := cellOf hb; have hf := frozOf hb; have hz := sizeOf hb; try simp at hz) | (at_builtin; refine wpList_push rfl (.tmp 54) (.tmp 56) 40 rfl 3 i0 _ 1 8 Try.underlying40 hI0 hI1 hI2 hI3 rfl (by decide) (fun _ => rfl) one_In ((w.heap.size + 1)) _ (n + 1) cp (out) HQ.out rfl (HF.out.below (by (repeat' (first | exact Below.refl _ _ | assumption | refine Below.setCell ?_ ?_ _ | refine Below.drew ?_ | refine Below.alloc ?_ ?_ _ | refine Below.trans ?_ (Below.mono (by assumption) ?_) | (simp; done) | (simp; omega) | omega)))) (u) _ 1 rfl ?_ ?_ ?_ ?_ ?_; (refine news_In _ _ _ ?_ <;> simp [go_sem, ↓IntWalk.iteOmega]); (unfold maxLen; omega); omega; (simp; omega); intro A3 cp3 w3 hF3 hg3 hat3; have hc3 := cellGrown hg3 hlo hhi; have hf3 := frozGrown hg3 hlo hhi; have hs3 := hg3.size; (try simp at hs3); have hb3 := below_of_grown (B := w.heap.size) hg3 (hlo.mono (by omega)) (by simp; omega)))
     go_roundw
     case rel =>
      refine ⟨k + 1, A3, cp3, out ++ [u], u + d, by omega, by go_num, by simp [HQ.out], rfl, hF3, HS.out, fewOk_snoc HFO.out hdb.1 hub2 hud.2, by first | (simp [HQ.out]; done) | (simp [HQ.out]; omega), ?_, ?_, ?_, by (repeat' (first | exact Below.refl _ _ | assumption | refine Below.setCell ?_ ?_ _ | refine Below.drew ?_ | refine Below.alloc ?_ ?_ _ | refine Below.trans ?_ (Below.mono (by assumption) ?_) | (simp; done) | (simp; omega) | omega))⟩
      all_goals first | (simp [go_sem, ↓IntWalk.iteOmega, *]; done) | omega | (simp [go_sem, ↓IntWalk.iteOmega, *]; omega)
     case measure => simp [intOf]; omega

end Go.Proofs.Yteciijnpfapmhaa
namespace Go.Proofs.Yteciijnpfapmhaa
set_option linter.unusedSimpArgs false
set_option linter.unusedVariables false
open Go.RowKit

set_option maxHeartbeats 2000000 in
theorem c_impl_sumInts (A : Option Addr) (ys : List Int) (cap : Nat) (w : World) (hr : Rds cIn 1 w A ys) (hn : ys.length ≤ 100000) (hb0 : ∀ k (hk : k < ys.length), -1 ≤ ys[k] ∧ ys[k] ≤ 9999) :
  Calls Try.prog 68 #[.slice A ys.length cap] w fun e w' => e = .returned (.int .i64 (sumL ys)) ∧ Below w.heap.size w w' := by
 go_enter Try.func68, Try.ntmps68
 go_wp2_with (fail)
 go_loopw [3, 8] (fun s i wr => ∃ k : Nat, k ≤ ys.length ∧ i = .int .i64 k ∧ s = .int .i64 (sumL (ys.take k)) ∧ (-(k : Int) ≤ sumL (ys.take k) ∧ sumL (ys.take k) ≤ 9999 * k) ∧ Below w.heap.size w wr) (fun _ i _ => ys.length - (intOf i).toNat)
 case atStart => exact ⟨0, Nat.zero_le _, rfl, rfl, by simp [sumL], by (repeat' (first | exact Below.refl _ _ | assumption | refine Below.setCell ?_ ?_ _ | refine Below.drew ?_ | refine Below.alloc ?_ ?_ _ | refine Below.trans ?_ (Below.mono (by assumption) ?_) | (simp; done) | (simp; omega) | omega))⟩
 case round =>
  obtain ⟨k, hk, rfl, rfl, hsb, hbr⟩ := hrel
  have hc := cellOf hbr
  have hf := frozOf hbr
  have hz := sizeOf hbr
  by_cases hlt : k < ys.length
  ·obtain ⟨bx, ox, rfl, hbx, hcx⟩ := hr k ys[k] (List.getElem?_eq_getElem hlt)
   have hx0 := hcx 0 _ rfl
   simp only [Nat.add_zero, Nat.mul_one] at hx0
   have HS := hid (sumL_snoc ys k hlt)
   have hyb := hb0 k hlt
   clear hcx hr
   generalize ys[k] = y at *
   generalize sumL (ys.take k) = s at *
   go_wp2_with (fail)
   go_roundw
   case rel => exact ⟨k + 1, by omega, by go_num, by rw [HS.out], by rw [HS.out]; omega, by (repeat' (first | exact Below.refl _ _ | assumption | refine Below.setCell ?_ ?_ _ | refine Below.drew ?_ | refine Below.alloc ?_ ?_ _ | refine Below.trans ?_ (Below.mono (by assumption) ?_) | (simp; done) | (simp; omega) | omega))⟩
   case measure => simp [intOf]; omega
  ·obtain rfl : k = ys.length := by omega
   rw [List.take_length]
   go_wp2_with (fail)
   go_ret
   exact ⟨rfl, by (repeat' (first | exact Below.refl _ _ | assumption | refine Below.setCell ?_ ?_ _ | refine Below.drew ?_ | refine Below.alloc ?_ ?_ _ | refine Below.trans ?_ (Below.mono (by assumption) ?_) | (simp; done) | (simp; omega) | omega))⟩

set_option maxRecDepth 100000 in
set_option maxHeartbeats 2000000 in
theorem c_impl_WaitingSum (d : Int) (A : Option Addr) (xs : List (Int × Int)) (cap : Nat) (B : Option Addr) (rs : List Int) (capr : Nat) (p : Int) (C : Option Addr) (pl : List Int) (capp : Nat) (w : World) (hx : Rds cIv 2 w A xs) (hn : xs.length ≤ 9223372036854775807) (hr : Rds cIn 1 w B rs) (hnr : rs.length ≤ 9223372036854775807) (hq : Rds cIn 1 w C pl) (hnp : pl.length ≤ 9223372036854775807) :
  Calls Try.prog 32 #[.agg #[.int .i64 d, .slice A xs.length cap], .slice B rs.length capr, .int .i64 p, .slice C pl.length capp] w fun e w' => e = .returned (.tuple #[.int .i64 (sumV d xs rs p pl).1, .bool (sumV d xs rs p pl).2]) ∧ Below w.heap.size w w' := by
 by_cases hs0 : planB d xs rs p pl = true
 rotate_left
 ·have hn0 : planB d xs rs p pl = false := Bool.eq_false_iff.2 hs0
  have HV := hid (show sumV d xs rs p pl = (0, false) by simp [sumV, hn0])
  clear hs0
  go_enter Try.func32, Try.ntmps32
  go_wp2_with (first | (go_at_call 27; refine (c_impl_IsBridgePlan _ _ _ _ _ _ _ _ _ _ _ _ (by first | assumption | exact Rds.below hx (by (repeat' (first | exact Below.refl _ _ | assumption | refine Below.setCell ?_ ?_ _ | refine Below.drew ?_ | refine Below.alloc ?_ ?_ _ | refine Below.trans ?_ (Below.mono (by assumption) ?_) | (simp; done) | (simp; omega) | omega)))) (by omega) (by first | assumption | exact Rds.below hr (by (repeat' (first | exact Below.refl _ _ | assumption | refine Below.setCell ?_ ?_ _ | refine Below.drew ?_ | refine Below.alloc ?_ ?_ _ | refine Below.trans ?_ (Below.mono (by assumption) ?_) | (simp; done) | (simp; omega) | omega)))) (by omega) (by first | assumption | exact Rds.below hq (by (repeat' (first | exact Below.refl _ _ | assumption | refine Below.setCell ?_ ?_ _ | refine Below.drew ?_ | refine Below.alloc ?_ ?_ _ | refine Below.trans ?_ (Below.mono (by assumption) ?_) | (simp; done) | (simp; omega) | omega)))) (by omega)).mono ?_; rintro e w' ⟨rfl, hb⟩; have hc := cellOf hb; have hf := frozOf hb; have hz := sizeOf hb; try simp at hz))
  all_goals go_ret2
  all_goals exact ⟨by first | (rw [HV.out]; done) | (rw [HV.out]; rfl), by (repeat' (first | exact Below.refl _ _ | assumption | refine Below.setCell ?_ ?_ _ | refine Below.drew ?_ | refine Below.alloc ?_ ?_ _ | refine Below.trans ?_ (Below.mono (by assumption) ?_) | (simp; done) | (simp; omega) | omega))⟩
 have hreq := planB_req hs0
 have hops := planB_ops hs0
 have hbr0 := reqB_br hreq
 have hdb := brB_dur hbr0
 have hrm := reqB_P hreq
 have hrl := vB_len (reqB_v hreq)
 have hpm := opsB_P hdb.1 hops
 have hwq := waitsL_eq hdb.1 hops hrm
 have HV := hid (show sumV d xs rs p pl = (sumL (waitsL rs pl), true) by simp [sumV, hs0, hwq])
 have hsv := planB_serv hs0
 have hpb := reqB_p hreq
 have hwl : (waitsL rs pl).length ≤ 8 := by simp [waitsL]; omega
 have hwb : ∀ k (hk : k < (waitsL rs pl).length), -1 ≤ (waitsL rs pl)[k] ∧ (waitsL rs pl)[k] ≤ 9999 := by
  intro k hk
  have hkr : k < rs.length := by simpa [waitsL] using hk
  have := waitO_bd (m := rs[k]) (hrm k hkr) hpm pl.length (Nat.le_refl _)
  rw [List.take_length] at this
  simpa [waitsL] using this
 clear hwq
 go_enter Try.func32, Try.ntmps32
 go_wp2_with (first | (first | (go_at_call 27; refine (c_impl_IsBridgePlan _ _ _ _ _ _ _ _ _ _ _ _ (by first | assumption | exact Rds.below hx (by (repeat' (first | exact Below.refl _ _ | assumption | refine Below.setCell ?_ ?_ _ | refine Below.drew ?_ | refine Below.alloc ?_ ?_ _ | refine Below.trans ?_ (Below.mono (by assumption) ?_) | (simp; done) | (simp; omega) | omega)))) (by omega) (by first | assumption | exact Rds.below hr (by (repeat' (first | exact Below.refl _ _ | assumption | refine Below.setCell ?_ ?_ _ | refine Below.drew ?_ | refine Below.alloc ?_ ?_ _ | refine Below.trans ?_ (Below.mono (by assumption) ?_) | (simp; done) | (simp; omega) | omega)))) (by omega) (by first | assumption | exact Rds.below hq (by (repeat' (first | exact Below.refl _ _ | assumption | refine Below.setCell ?_ ?_ _ | refine Below.drew ?_ | refine Below.alloc ?_ ?_ _ | refine Below.trans ?_ (Below.mono (by assumption) ?_) | (simp; done) | (simp; omega) | omega)))) (by omega)).mono ?_; rintro e w' ⟨rfl, hb⟩; have hc := cellOf hb; have hf := frozOf hb; have hz := sizeOf hb; try simp at hz)) | (go_at_call 65; refine (c_impl_waits _ _ rs pl _ _ _ (by first | assumption | exact Rds.below hr (by (repeat' (first | exact Below.refl _ _ | assumption | refine Below.setCell ?_ ?_ _ | refine Below.drew ?_ | refine Below.alloc ?_ ?_ _ | refine Below.trans ?_ (Below.mono (by assumption) ?_) | (simp; done) | (simp; omega) | omega)))) (by first | assumption | exact Rds.below hq (by (repeat' (first | exact Below.refl _ _ | assumption | refine Below.setCell ?_ ?_ _ | refine Below.drew ?_ | refine Below.alloc ?_ ?_ _ | refine Below.trans ?_ (Below.mono (by assumption) ?_) | (simp; done) | (simp; omega) | omega)))) (by omega) (by omega) hrm hpm).mono ?_; rintro e w' ⟨A9, cp9, rfl, hF9, hb⟩; have hr9 := hF9.rds; clear hF9; have hc := cellOf hb; have hf := frozOf hb; have hz := sizeOf hb; try simp at hz) | (go_at_call 68; refine (c_impl_sumInts _ (waitsL rs pl) _ _ (by first | assumption | exact Rds.below hr9 (by (repeat' (first | exact Below.refl _ _ | assumption | refine Below.setCell ?_ ?_ _ | refine Below.drew ?_ | refine Below.alloc ?_ ?_ _ | refine Below.trans ?_ (Below.mono (by assumption) ?_) | (simp; done) | (simp; omega) | omega)))) (by omega) hwb).mono ?_; rintro e w' ⟨rfl, hb⟩; have hc := cellOf hb; have hf := frozOf hb; have hz := sizeOf hb; try simp at hz))
 go_ret2
 exact ⟨by first | (rw [HV.out]; done) | (rw [HV.out]; rfl), by (repeat' (first | exact Below.refl _ _ | assumption | refine Below.setCell ?_ ?_ _ | refine Below.drew ?_ | refine Below.alloc ?_ ?_ _ | refine Below.trans ?_ (Below.mono (by assumption) ?_) | (simp; done) | (simp; omega) | omega))⟩

end Go.Proofs.Yteciijnpfapmhaa
namespace Go.Proofs.Yteciijnpfapmhaa
set_option linter.unusedSimpArgs false
set_option linter.unusedVariables false
open Go.RowKit

def FS31_7 (s m : Int) (pl : List Int) (bx ox k n0 capr : Nat) (C : Option Addr) (n1 capp : Nat) (w W0 : World) (iq : Nat) (v : Value) (w1 : World) : Prop := match iq with
 | 0 => v = .int .i64 (s)
 | 1 => v = .slice C n1 capp
 | 2 => v = .slice (some ⟨bx, ox, none⟩) n0 capr
 | 3 => v = .int .i64 (k)
 | 4 => v = .pointer (some ⟨bx, ox + k, none⟩)
 | 5 => v = .int .i64 (m)
 | 6 => v = .int .i64 (firstO pl m)
 | 7 => v = .int .i64 (s + (firstO pl m))
 | 8 => v = .slice (some ⟨bx, ox, none⟩) n0 capr
 | 9 => v = .int .i64 (k)
 | 10 => v = .pointer (some ⟨bx, ox + k, none⟩)
 | 11 => v = .int .i64 (m)
 | 12 => v = .int .i64 ((s + (firstO pl m)) - m)
 | _ => True

set_option maxRecDepth 100000 in
set_option maxHeartbeats 2000000 in
theorem c_spec_WaitingSum (d : Int) (A : Option Addr) (xs : List (Int × Int)) (cap : Nat) (B : Option Addr) (rs : List Int) (capr : Nat) (p : Int) (C : Option Addr) (pl : List Int) (capp : Nat) (w : World) (hx : Rds cIv 2 w A xs) (hn : xs.length ≤ 9223372036854775807) (hr : Rds cIn 1 w B rs) (hnr : rs.length ≤ 9223372036854775807) (hq : Rds cIn 1 w C pl) (hnp : pl.length ≤ 9223372036854775807) :
  Calls Try.prog 31 #[.agg #[.int .i64 d, .slice A xs.length cap], .slice B rs.length capr, .int .i64 p, .slice C pl.length capp] w fun e w' => e = .returned (.tuple #[.int .i64 (sumV d xs rs p pl).1, .bool (sumV d xs rs p pl).2]) ∧ Below w.heap.size w w' := by
 by_cases hs0 : reqB d xs rs p = true
 rotate_left
 ·have hn0 : reqB d xs rs p = false := Bool.eq_false_iff.2 hs0
  have HV := hid (show sumV d xs rs p pl = (0, false) by simp [sumV, planB_no1 (pl := pl) hn0])
  clear hs0
  go_enter Try.func31, Try.ntmps31
  go_wp2_with (first | (go_at_call 61; refine (c_spec_l15Requests _ _ _ _ _ _ _ _ _ (by first | assumption | exact Rds.below hx (by (repeat' (first | exact Below.refl _ _ | assumption | refine Below.setCell ?_ ?_ _ | refine Below.drew ?_ | refine Below.alloc ?_ ?_ _ | refine Below.trans ?_ (Below.mono (by assumption) ?_) | (simp; done) | (simp; omega) | omega)))) (by omega) (by first | assumption | exact Rds.below hr (by (repeat' (first | exact Below.refl _ _ | assumption | refine Below.setCell ?_ ?_ _ | refine Below.drew ?_ | refine Below.alloc ?_ ?_ _ | refine Below.trans ?_ (Below.mono (by assumption) ?_) | (simp; done) | (simp; omega) | omega)))) (by omega)).mono ?_; rintro e w' ⟨rfl, hb⟩; have hc := cellOf hb; have hf := frozOf hb; have hz := sizeOf hb; try simp at hz) | (go_at_call 62; refine (c_spec_l15Plan _ _ _ _ _ _ _ _ _ _ _ _ (by first | assumption | exact Rds.below hx (by (repeat' (first | exact Below.refl _ _ | assumption | refine Below.setCell ?_ ?_ _ | refine Below.drew ?_ | refine Below.alloc ?_ ?_ _ | refine Below.trans ?_ (Below.mono (by assumption) ?_) | (simp; done) | (simp; omega) | omega)))) (by omega) (by first | assumption | exact Rds.below hr (by (repeat' (first | exact Below.refl _ _ | assumption | refine Below.setCell ?_ ?_ _ | refine Below.drew ?_ | refine Below.alloc ?_ ?_ _ | refine Below.trans ?_ (Below.mono (by assumption) ?_) | (simp; done) | (simp; omega) | omega)))) (by omega) (by first | assumption | exact Rds.below hq (by (repeat' (first | exact Below.refl _ _ | assumption | refine Below.setCell ?_ ?_ _ | refine Below.drew ?_ | refine Below.alloc ?_ ?_ _ | refine Below.trans ?_ (Below.mono (by assumption) ?_) | (simp; done) | (simp; omega) | omega)))) (by omega) hs0).mono ?_; rintro e w' ⟨rfl, hb⟩; have hc := cellOf hb; have hf := frozOf hb; have hz := sizeOf hb; try simp at hz))
  all_goals go_ret2
  all_goals exact ⟨by first | (rw [HV.out]; done) | (rw [HV.out]; rfl), by (repeat' (first | exact Below.refl _ _ | assumption | refine Below.setCell ?_ ?_ _ | refine Below.drew ?_ | refine Below.alloc ?_ ?_ _ | refine Below.trans ?_ (Below.mono (by assumption) ?_) | (simp; done) | (simp; omega) | omega))⟩
 by_cases hs1 : planB d xs rs p pl = true
 rotate_left
 ·have hn1 : planB d xs rs p pl = false := Bool.eq_false_iff.2 hs1
  have HV := hid (show sumV d xs rs p pl = (0, false) by simp [sumV, hn1])
  clear hs1
  go_enter Try.func31, Try.ntmps31
  go_wp2_with (first | (go_at_call 61; refine (c_spec_l15Requests _ _ _ _ _ _ _ _ _ (by first | assumption | exact Rds.below hx (by (repeat' (first | exact Below.refl _ _ | assumption | refine Below.setCell ?_ ?_ _ | refine Below.drew ?_ | refine Below.alloc ?_ ?_ _ | refine Below.trans ?_ (Below.mono (by assumption) ?_) | (simp; done) | (simp; omega) | omega)))) (by omega) (by first | assumption | exact Rds.below hr (by (repeat' (first | exact Below.refl _ _ | assumption | refine Below.setCell ?_ ?_ _ | refine Below.drew ?_ | refine Below.alloc ?_ ?_ _ | refine Below.trans ?_ (Below.mono (by assumption) ?_) | (simp; done) | (simp; omega) | omega)))) (by omega)).mono ?_; rintro e w' ⟨rfl, hb⟩; have hc := cellOf hb; have hf := frozOf hb; have hz := sizeOf hb; try simp at hz) | (go_at_call 62; refine (c_spec_l15Plan _ _ _ _ _ _ _ _ _ _ _ _ (by first | assumption | exact Rds.below hx (by (repeat' (first | exact Below.refl _ _ | assumption | refine Below.setCell ?_ ?_ _ | refine Below.drew ?_ | refine Below.alloc ?_ ?_ _ | refine Below.trans ?_ (Below.mono (by assumption) ?_) | (simp; done) | (simp; omega) | omega)))) (by omega) (by first | assumption | exact Rds.below hr (by (repeat' (first | exact Below.refl _ _ | assumption | refine Below.setCell ?_ ?_ _ | refine Below.drew ?_ | refine Below.alloc ?_ ?_ _ | refine Below.trans ?_ (Below.mono (by assumption) ?_) | (simp; done) | (simp; omega) | omega)))) (by omega) (by first | assumption | exact Rds.below hq (by (repeat' (first | exact Below.refl _ _ | assumption | refine Below.setCell ?_ ?_ _ | refine Below.drew ?_ | refine Below.alloc ?_ ?_ _ | refine Below.trans ?_ (Below.mono (by assumption) ?_) | (simp; done) | (simp; omega) | omega)))) (by omega) hs0).mono ?_; rintro e w' ⟨rfl, hb⟩; have hc := cellOf hb; have hf := frozOf hb; have hz := sizeOf hb; try simp at hz))
  all_goals go_ret2
  all_goals exact ⟨by first | (rw [HV.out]; done) | (rw [HV.out]; rfl), by (repeat' (first | exact Below.refl _ _ | assumption | refine Below.setCell ?_ ?_ _ | refine Below.drew ?_ | refine Below.alloc ?_ ?_ _ | refine Below.trans ?_ (Below.mono (by assumption) ?_) | (simp; done) | (simp; omega) | omega))⟩
 have hops := planB_ops hs1
 have hrm := reqB_P hs0
 have hrl := vB_len (reqB_v hs0)
 have hpb := reqB_p hs0
 have hsv := planB_serv hs1
 have HV := hid (show sumV d xs rs p pl = (sumL (waitL rs pl), true) by simp [sumV, hs1])
 have hfb := fun m => firstO_bd hops m
 have hdb := brB_dur (reqB_br hs0)
 go_enter Try.func31, Try.ntmps31
 go_wp2_with (first | (go_at_call 61; refine (c_spec_l15Requests _ _ _ _ _ _ _ _ _ (by first | assumption | exact Rds.below hx (by (repeat' (first | exact Below.refl _ _ | assumption | refine Below.setCell ?_ ?_ _ | refine Below.drew ?_ | refine Below.alloc ?_ ?_ _ | refine Below.trans ?_ (Below.mono (by assumption) ?_) | (simp; done) | (simp; omega) | omega)))) (by omega) (by first | assumption | exact Rds.below hr (by (repeat' (first | exact Below.refl _ _ | assumption | refine Below.setCell ?_ ?_ _ | refine Below.drew ?_ | refine Below.alloc ?_ ?_ _ | refine Below.trans ?_ (Below.mono (by assumption) ?_) | (simp; done) | (simp; omega) | omega)))) (by omega)).mono ?_; rintro e w' ⟨rfl, hb⟩; have hc := cellOf hb; have hf := frozOf hb; have hz := sizeOf hb; try simp at hz) | (go_at_call 62; refine (c_spec_l15Plan _ _ _ _ _ _ _ _ _ _ _ _ (by first | assumption | exact Rds.below hx (by (repeat' (first | exact Below.refl _ _ | assumption | refine Below.setCell ?_ ?_ _ | refine Below.drew ?_ | refine Below.alloc ?_ ?_ _ | refine Below.trans ?_ (Below.mono (by assumption) ?_) | (simp; done) | (simp; omega) | omega)))) (by omega) (by first | assumption | exact Rds.below hr (by (repeat' (first | exact Below.refl _ _ | assumption | refine Below.setCell ?_ ?_ _ | refine Below.drew ?_ | refine Below.alloc ?_ ?_ _ | refine Below.trans ?_ (Below.mono (by assumption) ?_) | (simp; done) | (simp; omega) | omega)))) (by omega) (by first | assumption | exact Rds.below hq (by (repeat' (first | exact Below.refl _ _ | assumption | refine Below.setCell ?_ ?_ _ | refine Below.drew ?_ | refine Below.alloc ?_ ?_ _ | refine Below.trans ?_ (Below.mono (by assumption) ?_) | (simp; done) | (simp; omega) | omega)))) (by omega) hs0).mono ?_; rintro e w' ⟨rfl, hb⟩; have hc := cellOf hb; have hf := frozOf hb; have hz := sizeOf hb; try simp at hz))
 go_loopw [10, 11] (fun s i wr => ∃ k : Nat, k ≤ rs.length ∧ i = .int .i64 k ∧ s = .int .i64 (sumL (waitL (rs.take k) pl)) ∧ Below w.heap.size w wr) (fun _ i _ => rs.length - (intOf i).toNat)
 case atStart => exact ⟨0, Nat.zero_le _, rfl, rfl, by (repeat' (first | exact Below.refl _ _ | assumption | refine Below.setCell ?_ ?_ _ | refine Below.drew ?_ | refine Below.alloc ?_ ?_ _ | refine Below.trans ?_ (Below.mono (by assumption) ?_) | (simp; done) | (simp; omega) | omega))⟩
 case round =>
  obtain ⟨k, hk, rfl, rfl, hbr⟩ := hrel
  have hc := cellOf hbr
  have hf := frozOf hbr
  have hz := sizeOf hbr
  by_cases hlt : k < rs.length
  ·obtain ⟨bx, ox, rfl, hbx, hcx⟩ := hr k rs[k] (List.getElem?_eq_getElem hlt)
   have hx0 := hcx 0 _ rfl
   simp only [Nat.add_zero, Nat.mul_one] at hx0
   have HS := hid ((congrArg sumL (waitL_snoc rs pl k hlt)).trans (sumL_app _ _))
   have hmb := hrm k hlt
   unfold minP at hmb
   have hsb := sumW_bd hsv hpb k hk
   have hwm := serv_at hsv k hlt
   have hwf := wait_first hwm.1
   have hfm := hfb rs[k]
   have HQ := hid hq
   clear hcx hr hfb
   generalize rs[k] = m at *
   generalize sumL (waitL (rs.take k) pl) = s at *
   have HW := hid hwf.1
   clear hwf
   go_wp2_with (fail)
   refine wp_region_w (n := 13) [] [] (FS31_7 s m pl bx ox k rs.length capr C pl.length capp w) rfl (by kernel_rfl) (fun _ _ d _ _ h => by cases d <;> exact h) ?_ ?_ ?_ ?_ ?_ ?_
   ·intro iq
    match iq with
    | 0 | 1 | 2 | 3 | 4 | 5 | 6 | 7 | 8 | 9 | 10 | 11 | 12 => exact Stable.const _
    | n + 13 => exact Stable.const _
   ·intro iq hi
    exact absurd hi (by simp)
   ·intro iq hi
    exact absurd hi (by simp)
   ·intro iq o hi hl ho vals w1 hb1 hf
    exact absurd hl (by simp)
   ·intro iq o hi hl ho vals w1 hb1 hf
    match iq, hi with
    | 0, _ =>
     injection ho with ho
     subst ho
     clear hl
     simp only [fillA, List.take, List.drop, put_none, Act.put, List.setIfInBounds_toArray, List.set_cons_zero, List.set_cons_succ, Nat.reduceAdd]
     clear hf
     go_wp2_with (fail)
     exact RQ.mk rfl ⟨(by first | rfl | (simp [FS31_7]; done) | (simp [FS31_7, *]; done) | (simp [FS31_7, gotV]; done) | (simp [FS31_7, gotV]; omega)), fun h => absurd h (by decide)⟩ (Below.refl _ _)
    | 1, _ =>
     injection ho with ho
     subst ho
     clear hl
     simp only [fillA, List.take, List.drop, put_none, Act.put, List.setIfInBounds_toArray, List.set_cons_zero, List.set_cons_succ, Nat.reduceAdd]
     clear hf
     go_wp2_with (fail)
     exact RQ.mk rfl ⟨(by first | rfl | (simp [FS31_7]; done) | (simp [FS31_7, *]; done) | (simp [FS31_7, gotV]; done) | (simp [FS31_7, gotV]; omega)), fun h => absurd h (by decide)⟩ (Below.refl _ _)
    | 2, _ =>
     injection ho with ho
     subst ho
     clear hl
     simp only [fillA, List.take, List.drop, put_none, Act.put, List.setIfInBounds_toArray, List.set_cons_zero, List.set_cons_succ, Nat.reduceAdd]
     clear hf
     go_wp2_with (fail)
     exact RQ.mk rfl ⟨(by first | rfl | (simp [FS31_7]; done) | (simp [FS31_7, *]; done) | (simp [FS31_7, gotV]; done) | (simp [FS31_7, gotV]; omega)), fun h => absurd h (by decide)⟩ (Below.refl _ _)
    | 3, _ =>
     injection ho with ho
     subst ho
     clear hl
     simp only [fillA, List.take, List.drop, put_none, Act.put, List.setIfInBounds_toArray, List.set_cons_zero, List.set_cons_succ, Nat.reduceAdd]
     clear hf
     go_wp2_with (fail)
     exact RQ.mk rfl ⟨(by first | rfl | (simp [FS31_7]; done) | (simp [FS31_7, *]; done) | (simp [FS31_7, gotV]; done) | (simp [FS31_7, gotV]; omega)), fun h => absurd h (by decide)⟩ (Below.refl _ _)
    | 4, _ =>
     injection ho with ho
     subst ho
     clear hl
     simp only [fillA, List.take, List.drop, put_none, Act.put, List.setIfInBounds_toArray, List.set_cons_zero, List.set_cons_succ, Nat.reduceAdd]
     have f2 := hf 2 (by decide) (by kernel_rfl)
     generalize vals 2 = v2 at *
     subst f2
     have f3 := hf 3 (by decide) (by kernel_rfl)
     generalize vals 3 = v3 at *
     subst f3
     clear hf
     go_wp2_with (fail)
     exact RQ.mk rfl ⟨(by first | rfl | (simp [FS31_7]; done) | (simp [FS31_7, *]; done) | (simp [FS31_7, gotV]; done) | (simp [FS31_7, gotV]; omega)), fun h => absurd h (by decide)⟩ (Below.refl _ _)
    | 5, _ =>
     injection ho with ho
     subst ho
     clear hl
     simp only [fillA, List.take, List.drop, put_none, Act.put, List.setIfInBounds_toArray, List.set_cons_zero, List.set_cons_succ, Nat.reduceAdd]
     have f4 := hf 4 (by decide) (by kernel_rfl)
     generalize vals 4 = v4 at *
     subst f4
     clear hf
     have hc1 := cellOf hb1
     have hf1 := frozOf hb1
     have hz1 := sizeOf hb1
     try simp at hz1
     go_wp2_with (fail)
     exact RQ.mk rfl ⟨(by first | rfl | (simp [FS31_7]; done) | (simp [FS31_7, *]; done) | (simp [FS31_7, gotV]; done) | (simp [FS31_7, gotV]; omega)), fun h => absurd h (by decide)⟩ (Below.refl _ _)
    | 6, _ =>
     injection ho with ho
     subst ho
     clear hl
     simp only [fillA, List.take, List.drop, put_none, Act.put, List.setIfInBounds_toArray, List.set_cons_zero, List.set_cons_succ, Nat.reduceAdd]
     have f1 := hf 1 (by decide) (by kernel_rfl)
     generalize vals 1 = v1 at *
     subst f1
     have f5 := hf 5 (by decide) (by kernel_rfl)
     generalize vals 5 = v5 at *
     subst f5
     clear hf
     have hc1 := cellOf hb1
     have hf1 := frozOf hb1
     have hz1 := sizeOf hb1
     try simp at hz1
     go_wp2_with (first | (go_at_call 67; refine (c_spec_l15First _ _ _ _ _ _ (by first | assumption | exact Rds.below HQ.out (by (repeat' (first | exact Below.refl _ _ | assumption | refine Below.setCell ?_ ?_ _ | refine Below.drew ?_ | refine Below.alloc ?_ ?_ _ | refine Below.trans ?_ (Below.mono (by assumption) ?_) | (simp; done) | (simp; omega) | omega)))) rfl (by omega)).mono ?_; rintro e w' ⟨rfl, hb⟩; have hc := cellOf hb; have hf := frozOf hb; have hz := sizeOf hb; try simp at hz))
     exact RQ.mk rfl ⟨(by first | rfl | (simp [FS31_7]; done) | (simp [FS31_7, *]; done) | (simp [FS31_7, gotV]; done) | (simp [FS31_7, gotV]; omega)), fun h => absurd h (by decide)⟩ (by (repeat' (first | exact Below.refl _ _ | assumption | refine Below.setCell ?_ ?_ _ | refine Below.drew ?_ | refine Below.alloc ?_ ?_ _ | refine Below.trans ?_ (Below.mono (by assumption) ?_) | (simp; done) | (simp; omega) | omega)))
    | 7, _ =>
     injection ho with ho
     subst ho
     clear hl
     simp only [fillA, List.take, List.drop, put_none, Act.put, List.setIfInBounds_toArray, List.set_cons_zero, List.set_cons_succ, Nat.reduceAdd]
     have f0 := hf 0 (by decide) (by kernel_rfl)
     generalize vals 0 = v0 at *
     subst f0
     have f6 := hf 6 (by decide) (by kernel_rfl)
     generalize vals 6 = v6 at *
     subst f6
     clear hf
     go_wp2_with (fail)
     exact RQ.mk rfl ⟨(by first | rfl | (simp [FS31_7]; done) | (simp [FS31_7, *]; done) | (simp [FS31_7, gotV]; done) | (simp [FS31_7, gotV]; omega)), fun h => absurd h (by decide)⟩ (Below.refl _ _)
    | 8, _ =>
     injection ho with ho
     subst ho
     clear hl
     simp only [fillA, List.take, List.drop, put_none, Act.put, List.setIfInBounds_toArray, List.set_cons_zero, List.set_cons_succ, Nat.reduceAdd]
     clear hf
     go_wp2_with (fail)
     exact RQ.mk rfl ⟨(by first | rfl | (simp [FS31_7]; done) | (simp [FS31_7, *]; done) | (simp [FS31_7, gotV]; done) | (simp [FS31_7, gotV]; omega)), fun h => absurd h (by decide)⟩ (Below.refl _ _)
    | 9, _ =>
     injection ho with ho
     subst ho
     clear hl
     simp only [fillA, List.take, List.drop, put_none, Act.put, List.setIfInBounds_toArray, List.set_cons_zero, List.set_cons_succ, Nat.reduceAdd]
     clear hf
     go_wp2_with (fail)
     exact RQ.mk rfl ⟨(by first | rfl | (simp [FS31_7]; done) | (simp [FS31_7, *]; done) | (simp [FS31_7, gotV]; done) | (simp [FS31_7, gotV]; omega)), fun h => absurd h (by decide)⟩ (Below.refl _ _)
    | 10, _ =>
     injection ho with ho
     subst ho
     clear hl
     simp only [fillA, List.take, List.drop, put_none, Act.put, List.setIfInBounds_toArray, List.set_cons_zero, List.set_cons_succ, Nat.reduceAdd]
     have f8 := hf 8 (by decide) (by kernel_rfl)
     generalize vals 8 = v8 at *
     subst f8
     have f9 := hf 9 (by decide) (by kernel_rfl)
     generalize vals 9 = v9 at *
     subst f9
     clear hf
     go_wp2_with (fail)
     exact RQ.mk rfl ⟨(by first | rfl | (simp [FS31_7]; done) | (simp [FS31_7, *]; done) | (simp [FS31_7, gotV]; done) | (simp [FS31_7, gotV]; omega)), fun h => absurd h (by decide)⟩ (Below.refl _ _)
    | 11, _ =>
     injection ho with ho
     subst ho
     clear hl
     simp only [fillA, List.take, List.drop, put_none, Act.put, List.setIfInBounds_toArray, List.set_cons_zero, List.set_cons_succ, Nat.reduceAdd]
     have f10 := hf 10 (by decide) (by kernel_rfl)
     generalize vals 10 = v10 at *
     subst f10
     clear hf
     have hc1 := cellOf hb1
     have hf1 := frozOf hb1
     have hz1 := sizeOf hb1
     try simp at hz1
     go_wp2_with (fail)
     exact RQ.mk rfl ⟨(by first | rfl | (simp [FS31_7]; done) | (simp [FS31_7, *]; done) | (simp [FS31_7, gotV]; done) | (simp [FS31_7, gotV]; omega)), fun h => absurd h (by decide)⟩ (Below.refl _ _)
    | 12, _ =>
     injection ho with ho
     subst ho
     clear hl
     simp only [fillA, List.take, List.drop, put_none, Act.put, List.setIfInBounds_toArray, List.set_cons_zero, List.set_cons_succ, Nat.reduceAdd]
     have f7 := hf 7 (by decide) (by kernel_rfl)
     generalize vals 7 = v7 at *
     subst f7
     have f11 := hf 11 (by decide) (by kernel_rfl)
     generalize vals 11 = v11 at *
     subst f11
     clear hf
     go_wp2_with (fail)
     exact RQ.mk rfl ⟨(by first | rfl | (simp [FS31_7]; done) | (simp [FS31_7, *]; done) | (simp [FS31_7, gotV]; done) | (simp [FS31_7, gotV]; omega)), fun h => absurd h (by decide)⟩ (Below.refl _ _)
   ·intro vals w1 hb1 hf hd
    simp only [fillA, List.take, List.drop, put_none, Act.put, List.setIfInBounds_toArray, List.set_cons_zero, List.set_cons_succ, Nat.reduceAdd]
    clear hd
    have f0 := hf 0 (by decide)
    generalize vals 0 = v0 at *
    subst f0
    have f1 := hf 1 (by decide)
    generalize vals 1 = v1 at *
    subst f1
    have f2 := hf 2 (by decide)
    generalize vals 2 = v2 at *
    subst f2
    have f3 := hf 3 (by decide)
    generalize vals 3 = v3 at *
    subst f3
    have f4 := hf 4 (by decide)
    generalize vals 4 = v4 at *
    subst f4
    have f5 := hf 5 (by decide)
    generalize vals 5 = v5 at *
    subst f5
    have f6 := hf 6 (by decide)
    generalize vals 6 = v6 at *
    subst f6
    have f7 := hf 7 (by decide)
    generalize vals 7 = v7 at *
    subst f7
    have f8 := hf 8 (by decide)
    generalize vals 8 = v8 at *
    subst f8
    have f9 := hf 9 (by decide)
    generalize vals 9 = v9 at *
    subst f9
    have f10 := hf 10 (by decide)
    generalize vals 10 = v10 at *
    subst f10
    have f11 := hf 11 (by decide)
    generalize vals 11 = v11 at *
    subst f11
    have f12 := hf 12 (by decide)
    generalize vals 12 = v12 at *
    subst f12
    clear hf
    have hc1 := cellOf hb1
    have hf1 := frozOf hb1
    have hz1 := sizeOf hb1
    try simp at hz1
    go_wp2_with (fail)
    go_roundw
    case rel => exact ⟨k + 1, by omega, by go_num, by rw [HS.out, HW.out]; exact int_eq (by omega), by (repeat' (first | exact Below.refl _ _ | assumption | refine Below.setCell ?_ ?_ _ | refine Below.drew ?_ | refine Below.alloc ?_ ?_ _ | refine Below.trans ?_ (Below.mono (by assumption) ?_) | (simp; done) | (simp; omega) | omega))⟩
    case measure => simp [intOf]; omega
  ·obtain rfl : k = rs.length := by omega
   rw [List.take_length]
   go_wp2_with (fail)
   go_ret2
   exact ⟨by first | (rw [HV.out]; done) | (rw [HV.out]; rfl), by (repeat' (first | exact Below.refl _ _ | assumption | refine Below.setCell ?_ ?_ _ | refine Below.drew ?_ | refine Below.alloc ?_ ?_ _ | refine Below.trans ?_ (Below.mono (by assumption) ?_) | (simp; done) | (simp; omega) | omega))⟩

end Go.Proofs.Yteciijnpfapmhaa
namespace Go.Proofs.Yteciijnpfapmhaa
set_option linter.unusedSimpArgs false
set_option linter.unusedVariables false
open Go.RowKit

set_option maxHeartbeats 400000 in
theorem c_impl_OpenMinutes (d : Int) (A : Option Addr) (xs : List (Int × Int)) (cap : Nat) (B : Option Addr) (rs : List Int) (capr : Nat) (p : Int) (C : Option Addr) (pl : List Int) (capp : Nat) (w : World) (hx : Rds cIv 2 w A xs) (hn : xs.length ≤ 9223372036854775807) (hr : Rds cIn 1 w B rs) (hnr : rs.length ≤ 9223372036854775807) (hq : Rds cIn 1 w C pl) (hnp : pl.length ≤ 9223372036854775807) :
  Calls Try.prog 30 #[.agg #[.int .i64 d, .slice A xs.length cap], .slice B rs.length capr, .int .i64 p, .slice C pl.length capp] w fun e w' => e = .returned (.tuple #[.int .i64 ((openV d xs rs p pl).1), .bool ((openV d xs rs p pl).2)]) ∧ Below w.heap.size w w' := by
 by_cases hs0 : planB d xs rs p pl = true
 rotate_left
 ·have hn : planB d xs rs p pl = false := Bool.eq_false_iff.2 hs0
  clear hs0
  go_enter Try.func30, Try.ntmps30
  go_wp2_with (first | (go_at_call 27; refine (c_impl_IsBridgePlan _ _ _ _ _ _ _ _ _ _ _ _ (by first | assumption | exact Rds.below hx (by (repeat' (first | exact Below.refl _ _ | assumption | refine Below.setCell ?_ ?_ _ | refine Below.drew ?_ | refine Below.alloc ?_ ?_ _ | refine Below.trans ?_ (Below.mono (by assumption) ?_) | (simp; done) | (simp; omega) | omega)))) (by omega) (by first | assumption | exact Rds.below hr (by (repeat' (first | exact Below.refl _ _ | assumption | refine Below.setCell ?_ ?_ _ | refine Below.drew ?_ | refine Below.alloc ?_ ?_ _ | refine Below.trans ?_ (Below.mono (by assumption) ?_) | (simp; done) | (simp; omega) | omega)))) (by omega) (by first | assumption | exact Rds.below hq (by (repeat' (first | exact Below.refl _ _ | assumption | refine Below.setCell ?_ ?_ _ | refine Below.drew ?_ | refine Below.alloc ?_ ?_ _ | refine Below.trans ?_ (Below.mono (by assumption) ?_) | (simp; done) | (simp; omega) | omega)))) (by omega)).mono ?_; rintro e w' ⟨rfl, hb⟩; have hc := cellOf hb; have hf := frozOf hb; have hz := sizeOf hb; try simp at hz))
  all_goals go_ret2
  all_goals
   refine ⟨?_, ?_⟩
   ·first | rfl | omega | (simp [openV, hn]; done) | (simp [openV, hn]; omega) | (simp [openV, hn]; (repeat' split) <;> (first | omega | (simp; done) | (simp; omega))) | (simp_all [openV]; done) | (simp_all [openV]; omega)
   ·(repeat' (first | exact Below.refl _ _ | assumption | refine Below.setCell ?_ ?_ _ | refine Below.drew ?_ | refine Below.alloc ?_ ?_ _ | refine Below.trans ?_ (Below.mono (by assumption) ?_) | (simp; done) | (simp; omega) | omega))
 have hdb := brB_dur (reqB_br (planB_req hs0))
 have hml := openB (opsB_len hdb.1 (planB_ops hs0)) hdb
 go_enter Try.func30, Try.ntmps30
 go_wp2_with (first | (go_at_call 27; refine (c_impl_IsBridgePlan _ _ _ _ _ _ _ _ _ _ _ _ (by first | assumption | exact Rds.below hx (by (repeat' (first | exact Below.refl _ _ | assumption | refine Below.setCell ?_ ?_ _ | refine Below.drew ?_ | refine Below.alloc ?_ ?_ _ | refine Below.trans ?_ (Below.mono (by assumption) ?_) | (simp; done) | (simp; omega) | omega)))) (by omega) (by first | assumption | exact Rds.below hr (by (repeat' (first | exact Below.refl _ _ | assumption | refine Below.setCell ?_ ?_ _ | refine Below.drew ?_ | refine Below.alloc ?_ ?_ _ | refine Below.trans ?_ (Below.mono (by assumption) ?_) | (simp; done) | (simp; omega) | omega)))) (by omega) (by first | assumption | exact Rds.below hq (by (repeat' (first | exact Below.refl _ _ | assumption | refine Below.setCell ?_ ?_ _ | refine Below.drew ?_ | refine Below.alloc ?_ ?_ _ | refine Below.trans ?_ (Below.mono (by assumption) ?_) | (simp; done) | (simp; omega) | omega)))) (by omega)).mono ?_; rintro e w' ⟨rfl, hb⟩; have hc := cellOf hb; have hf := frozOf hb; have hz := sizeOf hb; try simp at hz))
 all_goals go_ret2
 all_goals
  refine ⟨?_, ?_⟩
  ·first | rfl | omega | (simp [openV, hs0, hdb, hml]; done) | (simp [openV, hs0, hdb, hml]; omega) | (simp [openV, hs0, hdb, hml]; (repeat' split) <;> (first | omega | (simp; done) | (simp; omega))) | (simp_all [openV]; done) | (simp_all [openV]; omega)
  ·(repeat' (first | exact Below.refl _ _ | assumption | refine Below.setCell ?_ ?_ _ | refine Below.drew ?_ | refine Below.alloc ?_ ?_ _ | refine Below.trans ?_ (Below.mono (by assumption) ?_) | (simp; done) | (simp; omega) | omega))

end Go.Proofs.Yteciijnpfapmhaa
namespace Go.Proofs.Yteciijnpfapmhaa
set_option linter.unusedSimpArgs false
set_option linter.unusedVariables false
open Go.RowKit

set_option maxHeartbeats 400000 in
theorem c_spec_OpenMinutes (d : Int) (A : Option Addr) (xs : List (Int × Int)) (cap : Nat) (B : Option Addr) (rs : List Int) (capr : Nat) (p : Int) (C : Option Addr) (pl : List Int) (capp : Nat) (w : World) (hx : Rds cIv 2 w A xs) (hn : xs.length ≤ 9223372036854775807) (hr : Rds cIn 1 w B rs) (hnr : rs.length ≤ 9223372036854775807) (hq : Rds cIn 1 w C pl) (hnp : pl.length ≤ 9223372036854775807) :
  Calls Try.prog 29 #[.agg #[.int .i64 d, .slice A xs.length cap], .slice B rs.length capr, .int .i64 p, .slice C pl.length capp] w fun e w' => e = .returned (.tuple #[.int .i64 ((openV d xs rs p pl).1), .bool ((openV d xs rs p pl).2)]) ∧ Below w.heap.size w w' := by
 by_cases hs0 : reqB d xs rs p = true
 rotate_left
 ·have hn : reqB d xs rs p = false := Bool.eq_false_iff.2 hs0
  clear hs0
  have hn2 := planB_no1 (pl := pl) hn
  go_enter Try.func29, Try.ntmps29
  go_wp2_with (first | (go_at_call 61; refine (c_spec_l15Requests _ _ _ _ _ _ _ _ _ (by first | assumption | exact Rds.below hx (by (repeat' (first | exact Below.refl _ _ | assumption | refine Below.setCell ?_ ?_ _ | refine Below.drew ?_ | refine Below.alloc ?_ ?_ _ | refine Below.trans ?_ (Below.mono (by assumption) ?_) | (simp; done) | (simp; omega) | omega)))) (by omega) (by first | assumption | exact Rds.below hr (by (repeat' (first | exact Below.refl _ _ | assumption | refine Below.setCell ?_ ?_ _ | refine Below.drew ?_ | refine Below.alloc ?_ ?_ _ | refine Below.trans ?_ (Below.mono (by assumption) ?_) | (simp; done) | (simp; omega) | omega)))) (by omega)).mono ?_; rintro e w' ⟨rfl, hb⟩; have hc := cellOf hb; have hf := frozOf hb; have hz := sizeOf hb; try simp at hz) | (go_at_call 62; refine (c_spec_l15Plan _ _ _ _ _ _ _ _ _ _ _ _ (by first | assumption | exact Rds.below hx (by (repeat' (first | exact Below.refl _ _ | assumption | refine Below.setCell ?_ ?_ _ | refine Below.drew ?_ | refine Below.alloc ?_ ?_ _ | refine Below.trans ?_ (Below.mono (by assumption) ?_) | (simp; done) | (simp; omega) | omega)))) (by omega) (by first | assumption | exact Rds.below hr (by (repeat' (first | exact Below.refl _ _ | assumption | refine Below.setCell ?_ ?_ _ | refine Below.drew ?_ | refine Below.alloc ?_ ?_ _ | refine Below.trans ?_ (Below.mono (by assumption) ?_) | (simp; done) | (simp; omega) | omega)))) (by omega) (by first | assumption | exact Rds.below hq (by (repeat' (first | exact Below.refl _ _ | assumption | refine Below.setCell ?_ ?_ _ | refine Below.drew ?_ | refine Below.alloc ?_ ?_ _ | refine Below.trans ?_ (Below.mono (by assumption) ?_) | (simp; done) | (simp; omega) | omega)))) (by omega) hs0).mono ?_; rintro e w' ⟨rfl, hb⟩; have hc := cellOf hb; have hf := frozOf hb; have hz := sizeOf hb; try simp at hz))
  all_goals go_ret2
  all_goals
   refine ⟨?_, ?_⟩
   ·first | rfl | omega | (simp [openV, hn, hn2]; done) | (simp [openV, hn, hn2]; omega) | (simp [openV, hn, hn2]; (repeat' split) <;> (first | omega | (simp; done) | (simp; omega))) | (simp_all [openV]; done) | (simp_all [openV]; omega)
   ·(repeat' (first | exact Below.refl _ _ | assumption | refine Below.setCell ?_ ?_ _ | refine Below.drew ?_ | refine Below.alloc ?_ ?_ _ | refine Below.trans ?_ (Below.mono (by assumption) ?_) | (simp; done) | (simp; omega) | omega))
 by_cases hs1 : planB d xs rs p pl = true
 rotate_left
 ·have hn : planB d xs rs p pl = false := Bool.eq_false_iff.2 hs1
  clear hs1
  go_enter Try.func29, Try.ntmps29
  go_wp2_with (first | (go_at_call 61; refine (c_spec_l15Requests _ _ _ _ _ _ _ _ _ (by first | assumption | exact Rds.below hx (by (repeat' (first | exact Below.refl _ _ | assumption | refine Below.setCell ?_ ?_ _ | refine Below.drew ?_ | refine Below.alloc ?_ ?_ _ | refine Below.trans ?_ (Below.mono (by assumption) ?_) | (simp; done) | (simp; omega) | omega)))) (by omega) (by first | assumption | exact Rds.below hr (by (repeat' (first | exact Below.refl _ _ | assumption | refine Below.setCell ?_ ?_ _ | refine Below.drew ?_ | refine Below.alloc ?_ ?_ _ | refine Below.trans ?_ (Below.mono (by assumption) ?_) | (simp; done) | (simp; omega) | omega)))) (by omega)).mono ?_; rintro e w' ⟨rfl, hb⟩; have hc := cellOf hb; have hf := frozOf hb; have hz := sizeOf hb; try simp at hz) | (go_at_call 62; refine (c_spec_l15Plan _ _ _ _ _ _ _ _ _ _ _ _ (by first | assumption | exact Rds.below hx (by (repeat' (first | exact Below.refl _ _ | assumption | refine Below.setCell ?_ ?_ _ | refine Below.drew ?_ | refine Below.alloc ?_ ?_ _ | refine Below.trans ?_ (Below.mono (by assumption) ?_) | (simp; done) | (simp; omega) | omega)))) (by omega) (by first | assumption | exact Rds.below hr (by (repeat' (first | exact Below.refl _ _ | assumption | refine Below.setCell ?_ ?_ _ | refine Below.drew ?_ | refine Below.alloc ?_ ?_ _ | refine Below.trans ?_ (Below.mono (by assumption) ?_) | (simp; done) | (simp; omega) | omega)))) (by omega) (by first | assumption | exact Rds.below hq (by (repeat' (first | exact Below.refl _ _ | assumption | refine Below.setCell ?_ ?_ _ | refine Below.drew ?_ | refine Below.alloc ?_ ?_ _ | refine Below.trans ?_ (Below.mono (by assumption) ?_) | (simp; done) | (simp; omega) | omega)))) (by omega) hs0).mono ?_; rintro e w' ⟨rfl, hb⟩; have hc := cellOf hb; have hf := frozOf hb; have hz := sizeOf hb; try simp at hz))
  all_goals go_ret2
  all_goals
   refine ⟨?_, ?_⟩
   ·first | rfl | omega | (simp [openV, hs0, hn]; done) | (simp [openV, hs0, hn]; omega) | (simp [openV, hs0, hn]; (repeat' split) <;> (first | omega | (simp; done) | (simp; omega))) | (simp_all [openV]; done) | (simp_all [openV]; omega)
   ·(repeat' (first | exact Below.refl _ _ | assumption | refine Below.setCell ?_ ?_ _ | refine Below.drew ?_ | refine Below.alloc ?_ ?_ _ | refine Below.trans ?_ (Below.mono (by assumption) ?_) | (simp; done) | (simp; omega) | omega))
 have hdb := brB_dur (reqB_br (planB_req hs1))
 have hml := openB (opsB_len hdb.1 (planB_ops hs1)) hdb
 go_enter Try.func29, Try.ntmps29
 go_wp2_with (first | (go_at_call 61; refine (c_spec_l15Requests _ _ _ _ _ _ _ _ _ (by first | assumption | exact Rds.below hx (by (repeat' (first | exact Below.refl _ _ | assumption | refine Below.setCell ?_ ?_ _ | refine Below.drew ?_ | refine Below.alloc ?_ ?_ _ | refine Below.trans ?_ (Below.mono (by assumption) ?_) | (simp; done) | (simp; omega) | omega)))) (by omega) (by first | assumption | exact Rds.below hr (by (repeat' (first | exact Below.refl _ _ | assumption | refine Below.setCell ?_ ?_ _ | refine Below.drew ?_ | refine Below.alloc ?_ ?_ _ | refine Below.trans ?_ (Below.mono (by assumption) ?_) | (simp; done) | (simp; omega) | omega)))) (by omega)).mono ?_; rintro e w' ⟨rfl, hb⟩; have hc := cellOf hb; have hf := frozOf hb; have hz := sizeOf hb; try simp at hz) | (go_at_call 62; refine (c_spec_l15Plan _ _ _ _ _ _ _ _ _ _ _ _ (by first | assumption | exact Rds.below hx (by (repeat' (first | exact Below.refl _ _ | assumption | refine Below.setCell ?_ ?_ _ | refine Below.drew ?_ | refine Below.alloc ?_ ?_ _ | refine Below.trans ?_ (Below.mono (by assumption) ?_) | (simp; done) | (simp; omega) | omega)))) (by omega) (by first | assumption | exact Rds.below hr (by (repeat' (first | exact Below.refl _ _ | assumption | refine Below.setCell ?_ ?_ _ | refine Below.drew ?_ | refine Below.alloc ?_ ?_ _ | refine Below.trans ?_ (Below.mono (by assumption) ?_) | (simp; done) | (simp; omega) | omega)))) (by omega) (by first | assumption | exact Rds.below hq (by (repeat' (first | exact Below.refl _ _ | assumption | refine Below.setCell ?_ ?_ _ | refine Below.drew ?_ | refine Below.alloc ?_ ?_ _ | refine Below.trans ?_ (Below.mono (by assumption) ?_) | (simp; done) | (simp; omega) | omega)))) (by omega) hs0).mono ?_; rintro e w' ⟨rfl, hb⟩; have hc := cellOf hb; have hf := frozOf hb; have hz := sizeOf hb; try simp at hz))
 all_goals go_ret2
 all_goals
  refine ⟨?_, ?_⟩
  ·first | rfl | omega | (simp [openV, hs0, hs1, hdb, hml]; done) | (simp [openV, hs0, hs1, hdb, hml]; omega) | (simp [openV, hs0, hs1, hdb, hml]; (repeat' split) <;> (first | omega | (simp; done) | (simp; omega))) | (simp_all [openV]; done) | (simp_all [openV]; omega)
  ·(repeat' (first | exact Below.refl _ _ | assumption | refine Below.setCell ?_ ?_ _ | refine Below.drew ?_ | refine Below.alloc ?_ ?_ _ | refine Below.trans ?_ (Below.mono (by assumption) ?_) | (simp; done) | (simp; omega) | omega))

end Go.Proofs.Yteciijnpfapmhaa
