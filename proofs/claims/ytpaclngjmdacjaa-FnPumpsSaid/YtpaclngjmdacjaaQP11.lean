import Derived.Test.YtpaclngjmdacjaaQP03
import Derived.Maps.AppendAt
namespace Go.Proofs.Ytpaclngjmdacjaa
set_option linter.unusedSimpArgs false
set_option linter.unusedVariables false
open Go.RowKit

def noBit (n : Nat) (x : Int) : Bool := !bitsOk n x
theorem bit_any (n : Nat) (pl : List Int) : pl.all (bitsOk n) = !(pl.any (noBit n)) := by
  rw [List.not_any_eq_all_not]
  congr 1
  funext x
  simp [noBit]

set_option maxHeartbeats 2000000 in
theorem c_impl_isPumpPlan_1 (x : Int) (B : Option Addr) (n capq bp : Nat) (w : World) (hq4 : w.cell? ⟨bp, 4, none⟩ = some (.slice B n capq)) (hlt : bp < w.heap.size) (hn : n ≤ 2) :
    Calls Try.prog 78 #[.int .i64 x, .pointer (some ⟨bp, 0, none⟩)] w fun e w' => e = .returned (.bool (!bitsOk n x)) ∧ Below w.heap.size w w' := by
  obtain rfl | rfl | rfl : n = 0 ∨ n = 1 ∨ n = 2 := by omega
  · go_enter Try.func78, Try.ntmps78
    go_wp2_with (first | (go_at_call 61; refine (c_impl_inside _ _ _ _ ).mono ?_; rintro e w' ⟨rfl, hb⟩; have hc := cellOf hb; have hf := frozOf hb; have hz := sizeOf hb; try simp at hz))
    go_ret
    exact ⟨ret_bool (by simp [bitsOk, topB]), by (repeat' (first | exact Below.refl _ _ | assumption | refine Below.setCell ?_ ?_ _ | refine Below.drew ?_ | refine Below.alloc ?_ ?_ _ | refine Below.trans ?_ (Below.mono (by assumption) ?_) | (simp; done) | (simp; omega) | omega))⟩
  · go_enter Try.func78, Try.ntmps78
    go_wp2_with (first | (go_at_call 61; refine (c_impl_inside _ _ _ _ ).mono ?_; rintro e w' ⟨rfl, hb⟩; have hc := cellOf hb; have hf := frozOf hb; have hz := sizeOf hb; try simp at hz))
    go_ret
    exact ⟨ret_bool (by simp [bitsOk, topB]), by (repeat' (first | exact Below.refl _ _ | assumption | refine Below.setCell ?_ ?_ _ | refine Below.drew ?_ | refine Below.alloc ?_ ?_ _ | refine Below.trans ?_ (Below.mono (by assumption) ?_) | (simp; done) | (simp; omega) | omega))⟩
  · go_enter Try.func78, Try.ntmps78
    go_wp2_with (first | (go_at_call 61; refine (c_impl_inside _ _ _ _ ).mono ?_; rintro e w' ⟨rfl, hb⟩; have hc := cellOf hb; have hf := frozOf hb; have hz := sizeOf hb; try simp at hz))
    go_ret
    exact ⟨ret_bool (by simp [bitsOk, topB]), by (repeat' (first | exact Below.refl _ _ | assumption | refine Below.setCell ?_ ?_ _ | refine Below.drew ?_ | refine Below.alloc ?_ ?_ _ | refine Below.trans ?_ (Below.mono (by assumption) ?_) | (simp; done) | (simp; omega) | omega))⟩

set_option maxHeartbeats 2000000 in
theorem c_idx_bit (A : Option Addr) (xs : List (Int)) (cap : Nat) (B : Option Addr) (n capq bp : Nat) (w : World) (h0 : Rds cIn 1 w A xs) (hn : xs.length ≤ 9223372036854775807) (hq4 : w.cell? ⟨bp, 4, none⟩ = some (.slice B n capq)) (hlbp : bp < w.heap.size) (hn2 : n ≤ 2) :
    Calls Try.prog 80 #[.slice A xs.length cap, .func (.func 78) #[] #[.pointer (some ⟨bp, 0, none⟩)]] w fun e w' => e = .returned (.int .i64 (idxF (noBit n) xs)) ∧ Below w.heap.size w w' := by
  go_enter Try.func80, Try.ntmps80
  go_wp2_with (fail)
  go_loopw [5, 8] (fun _ i wr => ∃ k : Nat, k ≤ xs.length ∧ i = .int .i64 k ∧ (xs.take k).any (noBit n) = false ∧ Below w.heap.size w wr) (fun _ i _ => xs.length - (intOf i).toNat)
  case atStart => exact ⟨0, Nat.zero_le _, rfl, rfl, Below.refl _ _⟩
  case round =>
    obtain ⟨k, hk, rfl, hl, hbr⟩ := hrel
    have HT := hid hl
    clear hl
    by_cases hlt : k < xs.length
    · obtain ⟨bx, ox, rfl, hbx, hcx⟩ := h0 k xs[k] (List.getElem?_eq_getElem hlt)
      have hx0 := hcx 0 _ rfl
      simp only [Nat.add_zero, Nat.mul_one] at hx0
      clear hcx h0
      skip
      have HS := hid (any_snoc (noBit n) xs k hlt)
      have HH := hid (fun hp => idxF_hit (p := (noBit n)) (xs := xs) HT.out hlt hp)
      obtain ⟨x, hxk⟩ : ∃ x, x = xs[k] := ⟨_, rfl⟩
      simp only [← hxk] at hx0 HS HH
      clear hxk
      have hc := cellOf hbr
      have hf := frozOf hbr
      have hz := sizeOf hbr
      have mq4 : wr.cell? ⟨bp, 4, none⟩ = some (.slice B n capq) := by rw [hc, if_pos hlbp]; exact hq4
      have mlbp : bp < wr.heap.size := by omega
      by_cases hp : (noBit n) x = true
      · have HP := hid hp
        have hp' := hp
        simp only [noBit, Bool.not_eq_true', Bool.not_eq_false'] at hp'
        clear hp
        go_wp2_with (go_at_call 78; refine (c_impl_isPumpPlan_1 _ B n capq bp _ mq4 mlbp hn2).mono ?_; rintro e w2 ⟨rfl, hb2⟩)
        go_ret
        exact ⟨ret_int (HH.out HP.out).symm, by (repeat' (first | exact Below.refl _ _ | assumption | refine Below.setCell ?_ ?_ _ | refine Below.drew ?_ | refine Below.alloc ?_ ?_ _ | refine Below.trans ?_ (Below.mono (by assumption) ?_) | (simp; done) | (simp; omega) | omega))⟩
      · have HP : Hid ((noBit n) x = false) := by show _ = _; simpa using hp
        have hp' := HP.out
        simp only [noBit, Bool.not_eq_true', Bool.not_eq_false'] at hp'
        clear hp
        go_wp2_with (go_at_call 78; refine (c_impl_isPumpPlan_1 _ B n capq bp _ mq4 mlbp hn2).mono ?_; rintro e w2 ⟨rfl, hb2⟩)
        go_roundw
        case rel => exact ⟨k + 1, by omega, by go_num, by rw [HS.out, HT.out, HP.out]; rfl, by (repeat' (first | exact Below.refl _ _ | assumption | refine Below.setCell ?_ ?_ _ | refine Below.drew ?_ | refine Below.alloc ?_ ?_ _ | refine Below.trans ?_ (Below.mono (by assumption) ?_) | (simp; done) | (simp; omega) | omega))⟩
        case measure => simp [intOf]; omega
    · obtain rfl : k = xs.length := by omega
      have HN := hid (idxF_none (p := (noBit n)) (xs := xs) (by have := HT.out; rwa [List.take_length] at this))
      go_wp2_with (fail)
      go_ret
      exact ⟨ret_int HN.out.symm, by (repeat' (first | exact Below.refl _ _ | assumption | refine Below.setCell ?_ ?_ _ | refine Below.drew ?_ | refine Below.alloc ?_ ?_ _ | refine Below.trans ?_ (Below.mono (by assumption) ?_) | (simp; done) | (simp; omega) | omega))⟩

set_option maxHeartbeats 2000000 in
theorem c_has_bit (A : Option Addr) (xs : List (Int)) (cap : Nat) (B : Option Addr) (n capq bp : Nat) (w : World) (h0 : Rds cIn 1 w A xs) (hn : xs.length ≤ 9223372036854775807) (hq4 : w.cell? ⟨bp, 4, none⟩ = some (.slice B n capq)) (hlbp : bp < w.heap.size) (hn2 : n ≤ 2) :
    Calls Try.prog 71 #[.slice A xs.length cap, .func (.func 78) #[] #[.pointer (some ⟨bp, 0, none⟩)]] w fun e w' => e = .returned (.bool (xs.any (noBit n))) ∧ Below w.heap.size w w' := by
  go_enter Try.func71, Try.ntmps71
  go_wp2_with (go_at_call 80; refine (c_idx_bit _ _ _ _ _ _ _ _ (by assumption) (by assumption) (by assumption) (by assumption) (by assumption)).mono ?_; rintro e w' ⟨rfl, hb⟩)
  all_goals go_ret
  all_goals exact ⟨ret_bool (by rw [← idxF_any]; simp), by (repeat' (first | exact Below.refl _ _ | assumption | refine Below.setCell ?_ ?_ _ | refine Below.drew ?_ | refine Below.alloc ?_ ?_ _ | refine Below.trans ?_ (Below.mono (by assumption) ?_) | (simp; done) | (simp; omega) | omega))⟩

set_option maxRecDepth 100000 in
set_option maxHeartbeats 4000000 in
theorem c_impl_isPumpPlan (l h v : Int) (A : Option Addr) (fs : List Int) (capf : Nat) (B : Option Addr) (ps : List (Int × Int × Int)) (capq : Nat) (C : Option Addr) (pl : List Int) (capp : Nat) (w : World) (hx : Rds cIn 1 w A fs) (hn : fs.length ≤ 9223372036854775807) (hy : Rds cPu 3 w B ps) (hm : ps.length ≤ 9223372036854775807) (hr : Rds cIn 1 w C pl) (hnr : pl.length ≤ 9223372036854775807) :
    Calls Try.prog 52 #[.agg #[.int .i64 l, .int .i64 h, .int .i64 v, .slice A fs.length capf, .slice B ps.length capq], .slice C pl.length capp] w fun e w' => e = .returned (.bool (planB l h v fs ps pl)) ∧ Below w.heap.size w w' := by
  by_cases hs0 : taskB l h v fs ps = true
  rotate_left
  · have hn0 : taskB l h v fs ps = false := Bool.eq_false_iff.2 hs0
    have HV := hid (show planB l h v fs ps pl = false by simp [planB, hn0])
    clear hs0
    go_enter Try.func52, Try.ntmps52
    go_wp2_with (first | (go_at_call 42; refine (c_impl_IsPumpTask _ _ _ _ _ _ _ _ _ _ (by first | assumption | exact Rds.below hx (by (repeat' (first | exact Below.refl _ _ | assumption | refine Below.setCell ?_ ?_ _ | refine Below.drew ?_ | refine Below.alloc ?_ ?_ _ | refine Below.trans ?_ (Below.mono (by assumption) ?_) | (simp; done) | (simp; omega) | omega)))) (by omega) (by first | assumption | exact Rds.below hy (by (repeat' (first | exact Below.refl _ _ | assumption | refine Below.setCell ?_ ?_ _ | refine Below.drew ?_ | refine Below.alloc ?_ ?_ _ | refine Below.trans ?_ (Below.mono (by assumption) ?_) | (simp; done) | (simp; omega) | omega)))) (by omega)).mono ?_; rintro e w' ⟨rfl, hb⟩; have hc := cellOf hb; have hf := frozOf hb; have hz := sizeOf hb; try simp at hz))
    all_goals go_ret
    all_goals exact ⟨by first | (rw [HV.out]; done) | (rw [HV.out]; rfl), by (repeat' (first | exact Below.refl _ _ | assumption | refine Below.setCell ?_ ?_ _ | refine Below.drew ?_ | refine Below.alloc ?_ ?_ _ | refine Below.trans ?_ (Below.mono (by assumption) ?_) | (simp; done) | (simp; omega) | omega))⟩
  by_cases hs1 : pl.length = fs.length
  rotate_left
  · have HV := hid (show planB l h v fs ps pl = false by simp [planB, hs1])
    go_enter Try.func52, Try.ntmps52
    go_wp2_with (first | (go_at_call 42; refine (c_impl_IsPumpTask _ _ _ _ _ _ _ _ _ _ (by first | assumption | exact Rds.below hx (by (repeat' (first | exact Below.refl _ _ | assumption | refine Below.setCell ?_ ?_ _ | refine Below.drew ?_ | refine Below.alloc ?_ ?_ _ | refine Below.trans ?_ (Below.mono (by assumption) ?_) | (simp; done) | (simp; omega) | omega)))) (by omega) (by first | assumption | exact Rds.below hy (by (repeat' (first | exact Below.refl _ _ | assumption | refine Below.setCell ?_ ?_ _ | refine Below.drew ?_ | refine Below.alloc ?_ ?_ _ | refine Below.trans ?_ (Below.mono (by assumption) ?_) | (simp; done) | (simp; omega) | omega)))) (by omega)).mono ?_; rintro e w' ⟨rfl, hb⟩; have hc := cellOf hb; have hf := frozOf hb; have hz := sizeOf hb; try simp at hz))
    all_goals go_ret
    all_goals exact ⟨by first | (rw [HV.out]; done) | (rw [HV.out]; rfl), by (repeat' (first | exact Below.refl _ _ | assumption | refine Below.setCell ?_ ?_ _ | refine Below.drew ?_ | refine Below.alloc ?_ ?_ _ | refine Below.trans ?_ (Below.mono (by assumption) ?_) | (simp; done) | (simp; omega) | omega))⟩
  have HSL := hid hs1
  have hn2 := headB_bd (taskB_head hs0)
  have HV := hid (show planB l h v fs ps pl = !(pl.any (noBit ps.length)) by rw [planB, hs0, bit_any]; simp [hs1])
  go_enter Try.func52, Try.ntmps52
  go_wp2_with (first | (first | (go_at_call 42; refine (c_impl_IsPumpTask _ _ _ _ _ _ _ _ _ _ (by first | assumption | exact Rds.below hx (by (repeat' (first | exact Below.refl _ _ | assumption | refine Below.setCell ?_ ?_ _ | refine Below.drew ?_ | refine Below.alloc ?_ ?_ _ | refine Below.trans ?_ (Below.mono (by assumption) ?_) | (simp; done) | (simp; omega) | omega)))) (by omega) (by first | assumption | exact Rds.below hy (by (repeat' (first | exact Below.refl _ _ | assumption | refine Below.setCell ?_ ?_ _ | refine Below.drew ?_ | refine Below.alloc ?_ ?_ _ | refine Below.trans ?_ (Below.mono (by assumption) ?_) | (simp; done) | (simp; omega) | omega)))) (by omega)).mono ?_; rintro e w' ⟨rfl, hb⟩; have hc := cellOf hb; have hf := frozOf hb; have hz := sizeOf hb; try simp at hz)) | (go_at_call 71; (try rw [← HSL.out]); refine (c_has_bit _ _ _ B ps.length capq w.heap.size _ (by first | assumption | exact Rds.below hr (by (repeat' (first | exact Below.refl _ _ | assumption | refine Below.setCell ?_ ?_ _ | refine Below.drew ?_ | refine Below.alloc ?_ ?_ _ | refine Below.trans ?_ (Below.mono (by assumption) ?_) | (simp; done) | (simp; omega) | omega)))) (by omega) (by first | assumption | (simp [go_sem, ↓IntWalk.iteOmega, *]; done)) (by first | omega | (simp; done) | (simp; omega)) (by omega)).mono ?_; rintro e w' ⟨rfl, hb⟩; have hc := cellOf hb; have hf := frozOf hb; have hz := sizeOf hb; try simp at hz))
  all_goals go_ret
  all_goals exact ⟨ret_bool (by rw [HV.out]), by (repeat' (first | exact Below.refl _ _ | assumption | refine Below.setCell ?_ ?_ _ | refine Below.drew ?_ | refine Below.alloc ?_ ?_ _ | refine Below.trans ?_ (Below.mono (by assumption) ?_) | (simp; done) | (simp; omega) | omega))⟩

end Go.Proofs.Ytpaclngjmdacjaa
namespace Go.Proofs.Ytpaclngjmdacjaa
set_option linter.unusedSimpArgs false
set_option linter.unusedVariables false
open Go.RowKit

set_option maxRecDepth 100000 in
set_option maxHeartbeats 4000000 in
theorem c_impl_PumpedWater (l h v : Int) (A : Option Addr) (fs : List Int) (capf : Nat) (B : Option Addr) (ps : List (Int × Int × Int)) (capq : Nat) (C : Option Addr) (pl : List Int) (capp : Nat) (w : World) (hx : Rds cIn 1 w A fs) (hn : fs.length ≤ 9223372036854775807) (hy : Rds cPu 3 w B ps) (hm : ps.length ≤ 9223372036854775807) (hr : Rds cIn 1 w C pl) (hnr : pl.length ≤ 9223372036854775807) :
    Calls Try.prog 17 #[.agg #[.int .i64 l, .int .i64 h, .int .i64 v, .slice A fs.length capf, .slice B ps.length capq], .slice C pl.length capp] w fun e w' => e = .returned (.tuple #[.int .i64 (waterV l h v fs ps pl).1, .bool (waterV l h v fs ps pl).2]) ∧ Below w.heap.size w w' := by
  have kf0 : ∀ (a0 a1 a2 a3 : Value) (w : World), (Instr.field 62 (.agg #[a0, a1, a2, a3]) 0).run Try.prog w = .ok a0 w := fun _ _ _ _ _ => by kernel_rfl
  have kf1 : ∀ (a0 a1 a2 a3 : Value) (w : World), (Instr.field 62 (.agg #[a0, a1, a2, a3]) 1).run Try.prog w = .ok a1 w := fun _ _ _ _ _ => by kernel_rfl
  have kf2 : ∀ (a0 a1 a2 a3 : Value) (w : World), (Instr.field 62 (.agg #[a0, a1, a2, a3]) 2).run Try.prog w = .ok a2 w := fun _ _ _ _ _ => by kernel_rfl
  have kf3 : ∀ (a0 a1 a2 a3 : Value) (w : World), (Instr.field 62 (.agg #[a0, a1, a2, a3]) 3).run Try.prog w = .ok a3 w := fun _ _ _ _ _ => by kernel_rfl
  by_cases hs0 : planB l h v fs ps pl = true
  rotate_left
  · have hn0 : planB l h v fs ps pl = false := Bool.eq_false_iff.2 hs0
    have HV := hid (show waterV l h v fs ps pl = (0, false) by simp [waterV, hn0])
    clear hs0
    go_enter Try.func17, Try.ntmps17
    go_wp2_with (first | (go_at_call 52; refine (c_impl_isPumpPlan _ _ _ _ _ _ _ _ _ _ _ _ _ (by first | assumption | exact Rds.below hx (by (repeat' (first | exact Below.refl _ _ | assumption | refine Below.setCell ?_ ?_ _ | refine Below.drew ?_ | refine Below.alloc ?_ ?_ _ | refine Below.trans ?_ (Below.mono (by assumption) ?_) | (simp; done) | (simp; omega) | omega)))) (by omega) (by first | assumption | exact Rds.below hy (by (repeat' (first | exact Below.refl _ _ | assumption | refine Below.setCell ?_ ?_ _ | refine Below.drew ?_ | refine Below.alloc ?_ ?_ _ | refine Below.trans ?_ (Below.mono (by assumption) ?_) | (simp; done) | (simp; omega) | omega)))) (by omega) (by first | assumption | exact Rds.below hr (by (repeat' (first | exact Below.refl _ _ | assumption | refine Below.setCell ?_ ?_ _ | refine Below.drew ?_ | refine Below.alloc ?_ ?_ _ | refine Below.trans ?_ (Below.mono (by assumption) ?_) | (simp; done) | (simp; omega) | omega)))) (by omega)).mono ?_; rintro e w' ⟨rfl, hb⟩; have hc := cellOf hb; have hf := frozOf hb; have hz := sizeOf hb; try simp at hz))
    all_goals go_ret2
    all_goals exact ⟨by first | (rw [HV.out]; done) | (rw [HV.out]; rfl), by (repeat' (first | exact Below.refl _ _ | assumption | refine Below.setCell ?_ ?_ _ | refine Below.drew ?_ | refine Below.alloc ?_ ?_ _ | refine Below.trans ?_ (Below.mono (by assumption) ?_) | (simp; done) | (simp; omega) | omega))⟩
  obtain ⟨hv, hn2, hl1, hnr5, hfl, hpu, hbt⟩ := planB_facts hs0
  have HV := hid (show waterV l h v fs ps pl = (pumpTo pl ps pl.length, true) by simp [waterV, hs0])
  go_enter Try.func17, Try.ntmps17
  go_wp2_with (first | (first | (go_at_call 52; refine (c_impl_isPumpPlan _ _ _ _ _ _ _ _ _ _ _ _ _ (by first | assumption | exact Rds.below hx (by (repeat' (first | exact Below.refl _ _ | assumption | refine Below.setCell ?_ ?_ _ | refine Below.drew ?_ | refine Below.alloc ?_ ?_ _ | refine Below.trans ?_ (Below.mono (by assumption) ?_) | (simp; done) | (simp; omega) | omega)))) (by omega) (by first | assumption | exact Rds.below hy (by (repeat' (first | exact Below.refl _ _ | assumption | refine Below.setCell ?_ ?_ _ | refine Below.drew ?_ | refine Below.alloc ?_ ?_ _ | refine Below.trans ?_ (Below.mono (by assumption) ?_) | (simp; done) | (simp; omega) | omega)))) (by omega) (by first | assumption | exact Rds.below hr (by (repeat' (first | exact Below.refl _ _ | assumption | refine Below.setCell ?_ ?_ _ | refine Below.drew ?_ | refine Below.alloc ?_ ?_ _ | refine Below.trans ?_ (Below.mono (by assumption) ?_) | (simp; done) | (simp; omega) | omega)))) (by omega)).mono ?_; rintro e w' ⟨rfl, hb⟩; have hc := cellOf hb; have hf := frozOf hb; have hz := sizeOf hb; try simp at hz)) | (go_at_call 53; refine (c_impl_carriedOut _ _ _ _ fs _ _ ps _ _ pl _ _ (by first | assumption | exact Rds.below hx (by (repeat' (first | exact Below.refl _ _ | assumption | refine Below.setCell ?_ ?_ _ | refine Below.drew ?_ | refine Below.alloc ?_ ?_ _ | refine Below.trans ?_ (Below.mono (by assumption) ?_) | (simp; done) | (simp; omega) | omega)))) (by omega) (by first | assumption | exact Rds.below hy (by (repeat' (first | exact Below.refl _ _ | assumption | refine Below.setCell ?_ ?_ _ | refine Below.drew ?_ | refine Below.alloc ?_ ?_ _ | refine Below.trans ?_ (Below.mono (by assumption) ?_) | (simp; done) | (simp; omega) | omega)))) (by omega) (by first | assumption | exact Rds.below hr (by (repeat' (first | exact Below.refl _ _ | assumption | refine Below.setCell ?_ ?_ _ | refine Below.drew ?_ | refine Below.alloc ?_ ?_ _ | refine Below.trans ?_ (Below.mono (by assumption) ?_) | (simp; done) | (simp; omega) | omega)))) (by omega) (by omega) hfl hpu (by omega) (by omega) hbt).mono ?_; rintro e w' ⟨A9, c9, rfl, hF9, hb⟩; have hc := cellOf hb; have hf := frozOf hb; have hz := sizeOf hb; try simp at hz))
  go_ret2
  exact ⟨by first | (rw [HV.out]; done) | (rw [HV.out]; rfl), by (repeat' (first | exact Below.refl _ _ | assumption | refine Below.setCell ?_ ?_ _ | refine Below.drew ?_ | refine Below.alloc ?_ ?_ _ | refine Below.trans ?_ (Below.mono (by assumption) ?_) | (simp; done) | (simp; omega) | omega))⟩

set_option maxRecDepth 100000 in
set_option maxHeartbeats 4000000 in
theorem c_impl_PlanCost (l h v : Int) (A : Option Addr) (fs : List Int) (capf : Nat) (B : Option Addr) (ps : List (Int × Int × Int)) (capq : Nat) (C : Option Addr) (pl : List Int) (capp : Nat) (w : World) (hx : Rds cIn 1 w A fs) (hn : fs.length ≤ 9223372036854775807) (hy : Rds cPu 3 w B ps) (hm : ps.length ≤ 9223372036854775807) (hr : Rds cIn 1 w C pl) (hnr : pl.length ≤ 9223372036854775807) :
    Calls Try.prog 23 #[.agg #[.int .i64 l, .int .i64 h, .int .i64 v, .slice A fs.length capf, .slice B ps.length capq], .slice C pl.length capp] w fun e w' => e = .returned (.tuple #[.int .i64 (payV l h v fs ps pl).1, .bool (payV l h v fs ps pl).2]) ∧ Below w.heap.size w w' := by
  have kf0 : ∀ (a0 a1 a2 a3 : Value) (w : World), (Instr.field 62 (.agg #[a0, a1, a2, a3]) 0).run Try.prog w = .ok a0 w := fun _ _ _ _ _ => by kernel_rfl
  have kf1 : ∀ (a0 a1 a2 a3 : Value) (w : World), (Instr.field 62 (.agg #[a0, a1, a2, a3]) 1).run Try.prog w = .ok a1 w := fun _ _ _ _ _ => by kernel_rfl
  have kf2 : ∀ (a0 a1 a2 a3 : Value) (w : World), (Instr.field 62 (.agg #[a0, a1, a2, a3]) 2).run Try.prog w = .ok a2 w := fun _ _ _ _ _ => by kernel_rfl
  have kf3 : ∀ (a0 a1 a2 a3 : Value) (w : World), (Instr.field 62 (.agg #[a0, a1, a2, a3]) 3).run Try.prog w = .ok a3 w := fun _ _ _ _ _ => by kernel_rfl
  by_cases hs0 : planB l h v fs ps pl = true
  rotate_left
  · have hn0 : planB l h v fs ps pl = false := Bool.eq_false_iff.2 hs0
    have HV := hid (show payV l h v fs ps pl = (0, false) by simp [payV, hn0])
    clear hs0
    go_enter Try.func23, Try.ntmps23
    go_wp2_with (first | (go_at_call 52; refine (c_impl_isPumpPlan _ _ _ _ _ _ _ _ _ _ _ _ _ (by first | assumption | exact Rds.below hx (by (repeat' (first | exact Below.refl _ _ | assumption | refine Below.setCell ?_ ?_ _ | refine Below.drew ?_ | refine Below.alloc ?_ ?_ _ | refine Below.trans ?_ (Below.mono (by assumption) ?_) | (simp; done) | (simp; omega) | omega)))) (by omega) (by first | assumption | exact Rds.below hy (by (repeat' (first | exact Below.refl _ _ | assumption | refine Below.setCell ?_ ?_ _ | refine Below.drew ?_ | refine Below.alloc ?_ ?_ _ | refine Below.trans ?_ (Below.mono (by assumption) ?_) | (simp; done) | (simp; omega) | omega)))) (by omega) (by first | assumption | exact Rds.below hr (by (repeat' (first | exact Below.refl _ _ | assumption | refine Below.setCell ?_ ?_ _ | refine Below.drew ?_ | refine Below.alloc ?_ ?_ _ | refine Below.trans ?_ (Below.mono (by assumption) ?_) | (simp; done) | (simp; omega) | omega)))) (by omega)).mono ?_; rintro e w' ⟨rfl, hb⟩; have hc := cellOf hb; have hf := frozOf hb; have hz := sizeOf hb; try simp at hz))
    all_goals go_ret2
    all_goals exact ⟨by first | (rw [HV.out]; done) | (rw [HV.out]; rfl), by (repeat' (first | exact Below.refl _ _ | assumption | refine Below.setCell ?_ ?_ _ | refine Below.drew ?_ | refine Below.alloc ?_ ?_ _ | refine Below.trans ?_ (Below.mono (by assumption) ?_) | (simp; done) | (simp; omega) | omega))⟩
  obtain ⟨hv, hn2, hl1, hnr5, hfl, hpu, hbt⟩ := planB_facts hs0
  have HV := hid (show payV l h v fs ps pl = (payTo pl ps pl.length, true) by simp [payV, hs0])
  go_enter Try.func23, Try.ntmps23
  go_wp2_with (first | (first | (go_at_call 52; refine (c_impl_isPumpPlan _ _ _ _ _ _ _ _ _ _ _ _ _ (by first | assumption | exact Rds.below hx (by (repeat' (first | exact Below.refl _ _ | assumption | refine Below.setCell ?_ ?_ _ | refine Below.drew ?_ | refine Below.alloc ?_ ?_ _ | refine Below.trans ?_ (Below.mono (by assumption) ?_) | (simp; done) | (simp; omega) | omega)))) (by omega) (by first | assumption | exact Rds.below hy (by (repeat' (first | exact Below.refl _ _ | assumption | refine Below.setCell ?_ ?_ _ | refine Below.drew ?_ | refine Below.alloc ?_ ?_ _ | refine Below.trans ?_ (Below.mono (by assumption) ?_) | (simp; done) | (simp; omega) | omega)))) (by omega) (by first | assumption | exact Rds.below hr (by (repeat' (first | exact Below.refl _ _ | assumption | refine Below.setCell ?_ ?_ _ | refine Below.drew ?_ | refine Below.alloc ?_ ?_ _ | refine Below.trans ?_ (Below.mono (by assumption) ?_) | (simp; done) | (simp; omega) | omega)))) (by omega)).mono ?_; rintro e w' ⟨rfl, hb⟩; have hc := cellOf hb; have hf := frozOf hb; have hz := sizeOf hb; try simp at hz)) | (go_at_call 53; refine (c_impl_carriedOut _ _ _ _ fs _ _ ps _ _ pl _ _ (by first | assumption | exact Rds.below hx (by (repeat' (first | exact Below.refl _ _ | assumption | refine Below.setCell ?_ ?_ _ | refine Below.drew ?_ | refine Below.alloc ?_ ?_ _ | refine Below.trans ?_ (Below.mono (by assumption) ?_) | (simp; done) | (simp; omega) | omega)))) (by omega) (by first | assumption | exact Rds.below hy (by (repeat' (first | exact Below.refl _ _ | assumption | refine Below.setCell ?_ ?_ _ | refine Below.drew ?_ | refine Below.alloc ?_ ?_ _ | refine Below.trans ?_ (Below.mono (by assumption) ?_) | (simp; done) | (simp; omega) | omega)))) (by omega) (by first | assumption | exact Rds.below hr (by (repeat' (first | exact Below.refl _ _ | assumption | refine Below.setCell ?_ ?_ _ | refine Below.drew ?_ | refine Below.alloc ?_ ?_ _ | refine Below.trans ?_ (Below.mono (by assumption) ?_) | (simp; done) | (simp; omega) | omega)))) (by omega) (by omega) hfl hpu (by omega) (by omega) hbt).mono ?_; rintro e w' ⟨A9, c9, rfl, hF9, hb⟩; have hc := cellOf hb; have hf := frozOf hb; have hz := sizeOf hb; try simp at hz))
  go_ret2
  exact ⟨by first | (rw [HV.out]; done) | (rw [HV.out]; rfl), by (repeat' (first | exact Below.refl _ _ | assumption | refine Below.setCell ?_ ?_ _ | refine Below.drew ?_ | refine Below.alloc ?_ ?_ _ | refine Below.trans ?_ (Below.mono (by assumption) ?_) | (simp; done) | (simp; omega) | omega))⟩

set_option maxRecDepth 100000 in
set_option maxHeartbeats 4000000 in
theorem c_impl_CountStarts (l h v : Int) (A : Option Addr) (fs : List Int) (capf : Nat) (B : Option Addr) (ps : List (Int × Int × Int)) (capq : Nat) (C : Option Addr) (pl : List Int) (capp : Nat) (w : World) (hx : Rds cIn 1 w A fs) (hn : fs.length ≤ 9223372036854775807) (hy : Rds cPu 3 w B ps) (hm : ps.length ≤ 9223372036854775807) (hr : Rds cIn 1 w C pl) (hnr : pl.length ≤ 9223372036854775807) :
    Calls Try.prog 21 #[.agg #[.int .i64 l, .int .i64 h, .int .i64 v, .slice A fs.length capf, .slice B ps.length capq], .slice C pl.length capp] w fun e w' => e = .returned (.tuple #[.int .i64 (startV l h v fs ps pl).1, .bool (startV l h v fs ps pl).2]) ∧ Below w.heap.size w w' := by
  have kf0 : ∀ (a0 a1 a2 a3 : Value) (w : World), (Instr.field 62 (.agg #[a0, a1, a2, a3]) 0).run Try.prog w = .ok a0 w := fun _ _ _ _ _ => by kernel_rfl
  have kf1 : ∀ (a0 a1 a2 a3 : Value) (w : World), (Instr.field 62 (.agg #[a0, a1, a2, a3]) 1).run Try.prog w = .ok a1 w := fun _ _ _ _ _ => by kernel_rfl
  have kf2 : ∀ (a0 a1 a2 a3 : Value) (w : World), (Instr.field 62 (.agg #[a0, a1, a2, a3]) 2).run Try.prog w = .ok a2 w := fun _ _ _ _ _ => by kernel_rfl
  have kf3 : ∀ (a0 a1 a2 a3 : Value) (w : World), (Instr.field 62 (.agg #[a0, a1, a2, a3]) 3).run Try.prog w = .ok a3 w := fun _ _ _ _ _ => by kernel_rfl
  by_cases hs0 : planB l h v fs ps pl = true
  rotate_left
  · have hn0 : planB l h v fs ps pl = false := Bool.eq_false_iff.2 hs0
    have HV := hid (show startV l h v fs ps pl = (0, false) by simp [startV, hn0])
    clear hs0
    go_enter Try.func21, Try.ntmps21
    go_wp2_with (first | (go_at_call 52; refine (c_impl_isPumpPlan _ _ _ _ _ _ _ _ _ _ _ _ _ (by first | assumption | exact Rds.below hx (by (repeat' (first | exact Below.refl _ _ | assumption | refine Below.setCell ?_ ?_ _ | refine Below.drew ?_ | refine Below.alloc ?_ ?_ _ | refine Below.trans ?_ (Below.mono (by assumption) ?_) | (simp; done) | (simp; omega) | omega)))) (by omega) (by first | assumption | exact Rds.below hy (by (repeat' (first | exact Below.refl _ _ | assumption | refine Below.setCell ?_ ?_ _ | refine Below.drew ?_ | refine Below.alloc ?_ ?_ _ | refine Below.trans ?_ (Below.mono (by assumption) ?_) | (simp; done) | (simp; omega) | omega)))) (by omega) (by first | assumption | exact Rds.below hr (by (repeat' (first | exact Below.refl _ _ | assumption | refine Below.setCell ?_ ?_ _ | refine Below.drew ?_ | refine Below.alloc ?_ ?_ _ | refine Below.trans ?_ (Below.mono (by assumption) ?_) | (simp; done) | (simp; omega) | omega)))) (by omega)).mono ?_; rintro e w' ⟨rfl, hb⟩; have hc := cellOf hb; have hf := frozOf hb; have hz := sizeOf hb; try simp at hz))
    all_goals go_ret2
    all_goals exact ⟨by first | (rw [HV.out]; done) | (rw [HV.out]; rfl), by (repeat' (first | exact Below.refl _ _ | assumption | refine Below.setCell ?_ ?_ _ | refine Below.drew ?_ | refine Below.alloc ?_ ?_ _ | refine Below.trans ?_ (Below.mono (by assumption) ?_) | (simp; done) | (simp; omega) | omega))⟩
  obtain ⟨hv, hn2, hl1, hnr5, hfl, hpu, hbt⟩ := planB_facts hs0
  have HV := hid (show startV l h v fs ps pl = (startsTo pl ps pl.length, true) by simp [startV, hs0])
  go_enter Try.func21, Try.ntmps21
  go_wp2_with (first | (first | (go_at_call 52; refine (c_impl_isPumpPlan _ _ _ _ _ _ _ _ _ _ _ _ _ (by first | assumption | exact Rds.below hx (by (repeat' (first | exact Below.refl _ _ | assumption | refine Below.setCell ?_ ?_ _ | refine Below.drew ?_ | refine Below.alloc ?_ ?_ _ | refine Below.trans ?_ (Below.mono (by assumption) ?_) | (simp; done) | (simp; omega) | omega)))) (by omega) (by first | assumption | exact Rds.below hy (by (repeat' (first | exact Below.refl _ _ | assumption | refine Below.setCell ?_ ?_ _ | refine Below.drew ?_ | refine Below.alloc ?_ ?_ _ | refine Below.trans ?_ (Below.mono (by assumption) ?_) | (simp; done) | (simp; omega) | omega)))) (by omega) (by first | assumption | exact Rds.below hr (by (repeat' (first | exact Below.refl _ _ | assumption | refine Below.setCell ?_ ?_ _ | refine Below.drew ?_ | refine Below.alloc ?_ ?_ _ | refine Below.trans ?_ (Below.mono (by assumption) ?_) | (simp; done) | (simp; omega) | omega)))) (by omega)).mono ?_; rintro e w' ⟨rfl, hb⟩; have hc := cellOf hb; have hf := frozOf hb; have hz := sizeOf hb; try simp at hz)) | (go_at_call 53; refine (c_impl_carriedOut _ _ _ _ fs _ _ ps _ _ pl _ _ (by first | assumption | exact Rds.below hx (by (repeat' (first | exact Below.refl _ _ | assumption | refine Below.setCell ?_ ?_ _ | refine Below.drew ?_ | refine Below.alloc ?_ ?_ _ | refine Below.trans ?_ (Below.mono (by assumption) ?_) | (simp; done) | (simp; omega) | omega)))) (by omega) (by first | assumption | exact Rds.below hy (by (repeat' (first | exact Below.refl _ _ | assumption | refine Below.setCell ?_ ?_ _ | refine Below.drew ?_ | refine Below.alloc ?_ ?_ _ | refine Below.trans ?_ (Below.mono (by assumption) ?_) | (simp; done) | (simp; omega) | omega)))) (by omega) (by first | assumption | exact Rds.below hr (by (repeat' (first | exact Below.refl _ _ | assumption | refine Below.setCell ?_ ?_ _ | refine Below.drew ?_ | refine Below.alloc ?_ ?_ _ | refine Below.trans ?_ (Below.mono (by assumption) ?_) | (simp; done) | (simp; omega) | omega)))) (by omega) (by omega) hfl hpu (by omega) (by omega) hbt).mono ?_; rintro e w' ⟨A9, c9, rfl, hF9, hb⟩; have hc := cellOf hb; have hf := frozOf hb; have hz := sizeOf hb; try simp at hz))
  go_ret2
  exact ⟨by first | (rw [HV.out]; done) | (rw [HV.out]; rfl), by (repeat' (first | exact Below.refl _ _ | assumption | refine Below.setCell ?_ ?_ _ | refine Below.drew ?_ | refine Below.alloc ?_ ?_ _ | refine Below.trans ?_ (Below.mono (by assumption) ?_) | (simp; done) | (simp; omega) | omega))⟩

set_option maxRecDepth 100000 in
set_option maxHeartbeats 4000000 in
theorem c_impl_LevelsWith (l h v : Int) (A : Option Addr) (fs : List Int) (capf : Nat) (B : Option Addr) (ps : List (Int × Int × Int)) (capq : Nat) (C : Option Addr) (pl : List Int) (capp : Nat) (w : World) (hx : Rds cIn 1 w A fs) (hn : fs.length ≤ 9223372036854775807) (hy : Rds cPu 3 w B ps) (hm : ps.length ≤ 9223372036854775807) (hr : Rds cIn 1 w C pl) (hnr : pl.length ≤ 9223372036854775807) :
    Calls Try.prog 33 #[.agg #[.int .i64 l, .int .i64 h, .int .i64 v, .slice A fs.length capf, .slice B ps.length capq], .slice C pl.length capp] w fun e w' => ∃ A' cap', e = .returned (.tuple #[.slice A' (levV l h v fs ps pl).1.length cap', .bool (levV l h v fs ps pl).2]) ∧ FreshA cIn 1 3 w.heap.size w' A' cap' (levV l h v fs ps pl).1 ∧ Below w.heap.size w w' := by
  have kf0 : ∀ (a0 a1 a2 a3 : Value) (w : World), (Instr.field 62 (.agg #[a0, a1, a2, a3]) 0).run Try.prog w = .ok a0 w := fun _ _ _ _ _ => by kernel_rfl
  have kf1 : ∀ (a0 a1 a2 a3 : Value) (w : World), (Instr.field 62 (.agg #[a0, a1, a2, a3]) 1).run Try.prog w = .ok a1 w := fun _ _ _ _ _ => by kernel_rfl
  have kf2 : ∀ (a0 a1 a2 a3 : Value) (w : World), (Instr.field 62 (.agg #[a0, a1, a2, a3]) 2).run Try.prog w = .ok a2 w := fun _ _ _ _ _ => by kernel_rfl
  have kf3 : ∀ (a0 a1 a2 a3 : Value) (w : World), (Instr.field 62 (.agg #[a0, a1, a2, a3]) 3).run Try.prog w = .ok a3 w := fun _ _ _ _ _ => by kernel_rfl
  by_cases hs0 : planB l h v fs ps pl = true
  rotate_left
  · have hn0 : planB l h v fs ps pl = false := Bool.eq_false_iff.2 hs0
    have HV := hid (show levV l h v fs ps pl = ([], false) by simp [levV, hn0])
    clear hs0
    go_enter Try.func33, Try.ntmps33
    go_wp2_with (first | (go_at_call 52; refine (c_impl_isPumpPlan _ _ _ _ _ _ _ _ _ _ _ _ _ (by first | assumption | exact Rds.below hx (by (repeat' (first | exact Below.refl _ _ | assumption | refine Below.setCell ?_ ?_ _ | refine Below.drew ?_ | refine Below.alloc ?_ ?_ _ | refine Below.trans ?_ (Below.mono (by assumption) ?_) | (simp; done) | (simp; omega) | omega)))) (by omega) (by first | assumption | exact Rds.below hy (by (repeat' (first | exact Below.refl _ _ | assumption | refine Below.setCell ?_ ?_ _ | refine Below.drew ?_ | refine Below.alloc ?_ ?_ _ | refine Below.trans ?_ (Below.mono (by assumption) ?_) | (simp; done) | (simp; omega) | omega)))) (by omega) (by first | assumption | exact Rds.below hr (by (repeat' (first | exact Below.refl _ _ | assumption | refine Below.setCell ?_ ?_ _ | refine Below.drew ?_ | refine Below.alloc ?_ ?_ _ | refine Below.trans ?_ (Below.mono (by assumption) ?_) | (simp; done) | (simp; omega) | omega)))) (by omega)).mono ?_; rintro e w' ⟨rfl, hb⟩; have hc := cellOf hb; have hf := frozOf hb; have hz := sizeOf hb; try simp at hz))
    go_ret2
    simp only [HV.out]
    exact ⟨none, 0, rfl, .inl ⟨rfl, rfl, rfl⟩, by (repeat' (first | exact Below.refl _ _ | assumption | refine Below.setCell ?_ ?_ _ | refine Below.drew ?_ | refine Below.alloc ?_ ?_ _ | refine Below.trans ?_ (Below.mono (by assumption) ?_) | (simp; done) | (simp; omega) | omega))⟩
  obtain ⟨hv, hn2, hl1, hnr5, hfl, hpu, hbt⟩ := planB_facts hs0
  have HV := hid (show levV l h v fs ps pl = (levsTo v fs pl ps pl.length, true) by simp [levV, hs0])
  have HLL := hid (levsTo_len (v := v) (fs := fs) (pl := pl) (ps := ps) pl.length)
  go_enter Try.func33, Try.ntmps33
  go_wp2_with (first | (first | (go_at_call 52; refine (c_impl_isPumpPlan _ _ _ _ _ _ _ _ _ _ _ _ _ (by first | assumption | exact Rds.below hx (by (repeat' (first | exact Below.refl _ _ | assumption | refine Below.setCell ?_ ?_ _ | refine Below.drew ?_ | refine Below.alloc ?_ ?_ _ | refine Below.trans ?_ (Below.mono (by assumption) ?_) | (simp; done) | (simp; omega) | omega)))) (by omega) (by first | assumption | exact Rds.below hy (by (repeat' (first | exact Below.refl _ _ | assumption | refine Below.setCell ?_ ?_ _ | refine Below.drew ?_ | refine Below.alloc ?_ ?_ _ | refine Below.trans ?_ (Below.mono (by assumption) ?_) | (simp; done) | (simp; omega) | omega)))) (by omega) (by first | assumption | exact Rds.below hr (by (repeat' (first | exact Below.refl _ _ | assumption | refine Below.setCell ?_ ?_ _ | refine Below.drew ?_ | refine Below.alloc ?_ ?_ _ | refine Below.trans ?_ (Below.mono (by assumption) ?_) | (simp; done) | (simp; omega) | omega)))) (by omega)).mono ?_; rintro e w' ⟨rfl, hb⟩; have hc := cellOf hb; have hf := frozOf hb; have hz := sizeOf hb; try simp at hz)) | (go_at_call 53; refine (c_impl_carriedOut _ _ _ _ fs _ _ ps _ _ pl _ _ (by first | assumption | exact Rds.below hx (by (repeat' (first | exact Below.refl _ _ | assumption | refine Below.setCell ?_ ?_ _ | refine Below.drew ?_ | refine Below.alloc ?_ ?_ _ | refine Below.trans ?_ (Below.mono (by assumption) ?_) | (simp; done) | (simp; omega) | omega)))) (by omega) (by first | assumption | exact Rds.below hy (by (repeat' (first | exact Below.refl _ _ | assumption | refine Below.setCell ?_ ?_ _ | refine Below.drew ?_ | refine Below.alloc ?_ ?_ _ | refine Below.trans ?_ (Below.mono (by assumption) ?_) | (simp; done) | (simp; omega) | omega)))) (by omega) (by first | assumption | exact Rds.below hr (by (repeat' (first | exact Below.refl _ _ | assumption | refine Below.setCell ?_ ?_ _ | refine Below.drew ?_ | refine Below.alloc ?_ ?_ _ | refine Below.trans ?_ (Below.mono (by assumption) ?_) | (simp; done) | (simp; omega) | omega)))) (by omega) (by omega) hfl hpu (by omega) (by omega) hbt).mono ?_; rintro e w' ⟨A9, c9, rfl, hF9, hb⟩; have hc := cellOf hb; have hf := frozOf hb; have hz := sizeOf hb; try simp at hz))
  go_ret2
  simp only [HV.out]
  exact ⟨A9, c9, by first | (rw [HLL.out]; done) | (rw [HLL.out]; rfl), hF9.mono (by first | omega | (simp; done) | (simp; omega) | (simp at *; omega)), by (repeat' (first | exact Below.refl _ _ | assumption | refine Below.setCell ?_ ?_ _ | refine Below.drew ?_ | refine Below.alloc ?_ ?_ _ | refine Below.trans ?_ (Below.mono (by assumption) ?_) | (simp; done) | (simp; omega) | omega))⟩

end Go.Proofs.Ytpaclngjmdacjaa
namespace Go.Proofs.Ytpaclngjmdacjaa
set_option linter.unusedSimpArgs false
set_option linter.unusedVariables false
open Go.RowKit

set_option maxRecDepth 100000 in
set_option maxHeartbeats 4000000 in
theorem c_spec_PumpedWater (l h v : Int) (A : Option Addr) (fs : List Int) (capf : Nat) (B : Option Addr) (ps : List (Int × Int × Int)) (capq : Nat) (C : Option Addr) (pl : List Int) (capp : Nat) (w : World) (hx : Rds cIn 1 w A fs) (hn : fs.length ≤ 9223372036854775807) (hy : Rds cPu 3 w B ps) (hm : ps.length ≤ 9223372036854775807) (hr : Rds cIn 1 w C pl) (hnr : pl.length ≤ 9223372036854775807) :
    Calls Try.prog 14 #[.agg #[.int .i64 l, .int .i64 h, .int .i64 v, .slice A fs.length capf, .slice B ps.length capq], .slice C pl.length capp] w fun e w' => e = .returned (.tuple #[.int .i64 (waterV l h v fs ps pl).1, .bool (waterV l h v fs ps pl).2]) ∧ Below w.heap.size w w' := by
  by_cases hs0 : planB l h v fs ps pl = true
  rotate_left
  · have hn0 : planB l h v fs ps pl = false := Bool.eq_false_iff.2 hs0
    have HV := hid (show waterV l h v fs ps pl = (0, false) by simp [waterV, hn0])
    clear hs0
    go_enter Try.func14, Try.ntmps14
    go_wp2_with (first | (go_at_call 49; refine (c_spec_l12Plan _ _ _ _ _ _ _ _ _ _ _ _ _ (by first | assumption | exact Rds.below hx (by (repeat' (first | exact Below.refl _ _ | assumption | refine Below.setCell ?_ ?_ _ | refine Below.drew ?_ | refine Below.alloc ?_ ?_ _ | refine Below.trans ?_ (Below.mono (by assumption) ?_) | (simp; done) | (simp; omega) | omega)))) (by omega) (by first | assumption | exact Rds.below hy (by (repeat' (first | exact Below.refl _ _ | assumption | refine Below.setCell ?_ ?_ _ | refine Below.drew ?_ | refine Below.alloc ?_ ?_ _ | refine Below.trans ?_ (Below.mono (by assumption) ?_) | (simp; done) | (simp; omega) | omega)))) (by omega) (by first | assumption | exact Rds.below hr (by (repeat' (first | exact Below.refl _ _ | assumption | refine Below.setCell ?_ ?_ _ | refine Below.drew ?_ | refine Below.alloc ?_ ?_ _ | refine Below.trans ?_ (Below.mono (by assumption) ?_) | (simp; done) | (simp; omega) | omega)))) (by omega)).mono ?_; rintro e w' ⟨rfl, hb⟩; have hc := cellOf hb; have hf := frozOf hb; have hz := sizeOf hb; try simp at hz))
    all_goals go_ret2
    all_goals exact ⟨by first | (rw [HV.out]; done) | (rw [HV.out]; rfl), by (repeat' (first | exact Below.refl _ _ | assumption | refine Below.setCell ?_ ?_ _ | refine Below.drew ?_ | refine Below.alloc ?_ ?_ _ | refine Below.trans ?_ (Below.mono (by assumption) ?_) | (simp; done) | (simp; omega) | omega))⟩
  obtain ⟨hv, hn2, hl1, hnr5, hfl, hpu, hbt⟩ := planB_facts hs0
  have HV := hid (show waterV l h v fs ps pl = (pumpTo pl ps pl.length, true) by simp [waterV, hs0])
  go_enter Try.func14, Try.ntmps14
  go_wp2_with (first | (go_at_call 49; refine (c_spec_l12Plan _ _ _ _ _ _ _ _ _ _ _ _ _ (by first | assumption | exact Rds.below hx (by (repeat' (first | exact Below.refl _ _ | assumption | refine Below.setCell ?_ ?_ _ | refine Below.drew ?_ | refine Below.alloc ?_ ?_ _ | refine Below.trans ?_ (Below.mono (by assumption) ?_) | (simp; done) | (simp; omega) | omega)))) (by omega) (by first | assumption | exact Rds.below hy (by (repeat' (first | exact Below.refl _ _ | assumption | refine Below.setCell ?_ ?_ _ | refine Below.drew ?_ | refine Below.alloc ?_ ?_ _ | refine Below.trans ?_ (Below.mono (by assumption) ?_) | (simp; done) | (simp; omega) | omega)))) (by omega) (by first | assumption | exact Rds.below hr (by (repeat' (first | exact Below.refl _ _ | assumption | refine Below.setCell ?_ ?_ _ | refine Below.drew ?_ | refine Below.alloc ?_ ?_ _ | refine Below.trans ?_ (Below.mono (by assumption) ?_) | (simp; done) | (simp; omega) | omega)))) (by omega)).mono ?_; rintro e w' ⟨rfl, hb⟩; have hc := cellOf hb; have hf := frozOf hb; have hz := sizeOf hb; try simp at hz))
  clear hs0
  go_loopw [6, 7] (fun s i wr => ∃ k : Nat, k ≤ pl.length ∧ i = .int .i64 k ∧ s = .int .i64 (pumpTo pl ps k) ∧ wr.cell? ⟨w.heap.size, 0, none⟩ = some (.int .i64 l) ∧ wr.cell? ⟨w.heap.size, 1, none⟩ = some (.int .i64 h) ∧ wr.cell? ⟨w.heap.size, 2, none⟩ = some (.int .i64 v) ∧ wr.cell? ⟨w.heap.size, 3, none⟩ = some (.slice A fs.length capf) ∧ wr.cell? ⟨w.heap.size, 4, none⟩ = some (.slice B ps.length capq) ∧ w.heap.size + 1 ≤ wr.heap.size ∧ Below w.heap.size w wr) (fun _ i _ => pl.length - (intOf i).toNat)
  case atStart =>
    refine ⟨0, Nat.zero_le _, rfl, rfl, ?_, ?_, ?_, ?_, ?_, ?_, by (repeat' (first | exact Below.refl _ _ | assumption | refine Below.setCell ?_ ?_ _ | refine Below.drew ?_ | refine Below.alloc ?_ ?_ _ | refine Below.trans ?_ (Below.mono (by assumption) ?_) | (simp; done) | (simp; omega) | omega))⟩
    all_goals first | (simp [go_sem, ↓IntWalk.iteOmega, *]; done) | (simp at *; omega) | (simp [go_sem, ↓IntWalk.iteOmega, *]; omega)
  case round =>
    obtain ⟨k, hk, rfl, rfl, hp0, hp1, hp2, hp3, hp4, hzz, hbr⟩ := hrel
    have hc := cellOf hbr
    have hf := frozOf hbr
    have hz := sizeOf hbr
    have hp0' : far _ _ _ = _ := hp0
    have hp1' : far _ _ _ = _ := hp1
    have hp2' : far _ _ _ = _ := hp2
    have hp3' : far _ _ _ = _ := hp3
    have hp4' : far _ _ _ = _ := hp4
    by_cases hlt : k < pl.length
    · have hmb := pumpTo_bd (pl := pl) hpu hn2 k hk
      have hob := outTo_bd hpu pl[k] ps.length (Nat.le_refl _)
      have hxb := hbt k hlt
      have HXK := hid (List.getElem?_eq_getElem hlt)
      have HM1 := hid (pumpTo_succ (ps := ps) k hlt)
      obtain ⟨x, hxk⟩ : ∃ x, x = pl[k] := ⟨_, rfl⟩
      simp only [← hxk] at hxb HXK HM1 hob
      clear hxk
      generalize pumpTo pl ps k = pm at *
      go_wp2_with (first | (go_at_call 50; refine (c_spec_l12Out _ _ _ _ fs _ _ ps _ _ pl _ _ k x _ (by first | assumption | exact Rds.below hx (by (repeat' (first | exact Below.refl _ _ | assumption | refine Below.setCell ?_ ?_ _ | refine Below.drew ?_ | refine Below.alloc ?_ ?_ _ | refine Below.trans ?_ (Below.mono (by assumption) ?_) | (simp; done) | (simp; omega) | omega)))) (by omega) (by first | assumption | exact Rds.below hy (by (repeat' (first | exact Below.refl _ _ | assumption | refine Below.setCell ?_ ?_ _ | refine Below.drew ?_ | refine Below.alloc ?_ ?_ _ | refine Below.trans ?_ (Below.mono (by assumption) ?_) | (simp; done) | (simp; omega) | omega)))) (by omega) (by first | assumption | exact Rds.below hr (by (repeat' (first | exact Below.refl _ _ | assumption | refine Below.setCell ?_ ?_ _ | refine Below.drew ?_ | refine Below.alloc ?_ ?_ _ | refine Below.trans ?_ (Below.mono (by assumption) ?_) | (simp; done) | (simp; omega) | omega)))) rfl (by omega) hpu (by omega) HXK.out hxb).mono ?_; rintro e w' ⟨rfl, hb⟩; have hc := cellOf hb; have hf := frozOf hb; have hz := sizeOf hb; try simp at hz))
      go_roundw
      case rel =>
        refine ⟨k + 1, by omega, by go_num, by rw [HM1.out], ?_, ?_, ?_, ?_, ?_, ?_, by (repeat' (first | exact Below.refl _ _ | assumption | refine Below.setCell ?_ ?_ _ | refine Below.drew ?_ | refine Below.alloc ?_ ?_ _ | refine Below.trans ?_ (Below.mono (by assumption) ?_) | (simp; done) | (simp; omega) | omega))⟩
        all_goals first | (simp [go_sem, ↓IntWalk.iteOmega, *]; done) | (simp [go_sem, ↓IntWalk.iteOmega, *]; omega) | omega
      case measure => simp [intOf]; omega
    · obtain rfl : k = pl.length := by omega
      go_wp2_with (fail)
      go_ret2
      exact ⟨by first | (rw [HV.out]; done) | (rw [HV.out]; rfl), by (repeat' (first | exact Below.refl _ _ | assumption | refine Below.setCell ?_ ?_ _ | refine Below.drew ?_ | refine Below.alloc ?_ ?_ _ | refine Below.trans ?_ (Below.mono (by assumption) ?_) | (simp; done) | (simp; omega) | omega))⟩

end Go.Proofs.Ytpaclngjmdacjaa
namespace Go.Proofs.Ytpaclngjmdacjaa
set_option linter.unusedSimpArgs false
set_option linter.unusedVariables false
open Go.RowKit

def FS25_3 (l h vv : Int) (A : Option Addr) (nf capf : Nat) (B : Option Addr) (np capq : Nat) (C : Option Addr) (n0 capp : Nat) (L : List Int) (py st pm ix : Int) (w W0 : World) (iq : Nat) (v : Value) (w1 : World) : Prop := match iq with
  | 0 => v = .agg #[.int .i64 (l), .int .i64 (h), .int .i64 (vv), .slice A nf capf, .slice B np capq]
  | 1 => v = .agg #[.int .i64 (l), .int .i64 (h), .int .i64 (vv), .slice A nf capf, .slice B np capq]
  | 2 => v = .slice C n0 capp
  | 3 => FreshPl W0.heap.size L n0 py st pm v w1
  | 4 => FreshSl W0.heap.size L n0 v w1
  | 5 => v = .int .i64 (ix)
  | 6 => v = .bool (decide (ix < 0))
  | _ => True

set_option maxRecDepth 100000 in
set_option maxHeartbeats 4000000 in
theorem c_impl_IsSafePlan (l h v : Int) (A : Option Addr) (fs : List Int) (capf : Nat) (B : Option Addr) (ps : List (Int × Int × Int)) (capq : Nat) (C : Option Addr) (pl : List Int) (capp : Nat) (w : World) (hx : Rds cIn 1 w A fs) (hn : fs.length ≤ 9223372036854775807) (hy : Rds cPu 3 w B ps) (hm : ps.length ≤ 9223372036854775807) (hr : Rds cIn 1 w C pl) (hnr : pl.length ≤ 9223372036854775807) :
    Calls Try.prog 25 #[.agg #[.int .i64 l, .int .i64 h, .int .i64 v, .slice A fs.length capf, .slice B ps.length capq], .slice C pl.length capp] w fun e w' => e = .returned (.tuple #[.bool (safeV l h v fs ps pl).1, .bool (safeV l h v fs ps pl).2]) ∧ Below w.heap.size w w' := by
  have kf0 : ∀ (a0 a1 a2 a3 : Value) (w : World), (Instr.field 62 (.agg #[a0, a1, a2, a3]) 0).run Try.prog w = .ok a0 w := fun _ _ _ _ _ => by kernel_rfl
  have kf1 : ∀ (a0 a1 a2 a3 : Value) (w : World), (Instr.field 62 (.agg #[a0, a1, a2, a3]) 1).run Try.prog w = .ok a1 w := fun _ _ _ _ _ => by kernel_rfl
  have kf2 : ∀ (a0 a1 a2 a3 : Value) (w : World), (Instr.field 62 (.agg #[a0, a1, a2, a3]) 2).run Try.prog w = .ok a2 w := fun _ _ _ _ _ => by kernel_rfl
  have kf3 : ∀ (a0 a1 a2 a3 : Value) (w : World), (Instr.field 62 (.agg #[a0, a1, a2, a3]) 3).run Try.prog w = .ok a3 w := fun _ _ _ _ _ => by kernel_rfl
  by_cases hs0 : planB l h v fs ps pl = true
  rotate_left
  · have hn0 : planB l h v fs ps pl = false := Bool.eq_false_iff.2 hs0
    have HV := hid (show safeV l h v fs ps pl = (false, false) by simp [safeV, hn0])
    clear hs0
    go_enter Try.func25, Try.ntmps25
    go_wp2_with (first | (go_at_call 52; refine (c_impl_isPumpPlan _ _ _ _ _ _ _ _ _ _ _ _ _ (by first | assumption | exact Rds.below hx (by (repeat' (first | exact Below.refl _ _ | assumption | refine Below.setCell ?_ ?_ _ | refine Below.drew ?_ | refine Below.alloc ?_ ?_ _ | refine Below.trans ?_ (Below.mono (by assumption) ?_) | (simp; done) | (simp; omega) | omega)))) (by omega) (by first | assumption | exact Rds.below hy (by (repeat' (first | exact Below.refl _ _ | assumption | refine Below.setCell ?_ ?_ _ | refine Below.drew ?_ | refine Below.alloc ?_ ?_ _ | refine Below.trans ?_ (Below.mono (by assumption) ?_) | (simp; done) | (simp; omega) | omega)))) (by omega) (by first | assumption | exact Rds.below hr (by (repeat' (first | exact Below.refl _ _ | assumption | refine Below.setCell ?_ ?_ _ | refine Below.drew ?_ | refine Below.alloc ?_ ?_ _ | refine Below.trans ?_ (Below.mono (by assumption) ?_) | (simp; done) | (simp; omega) | omega)))) (by omega)).mono ?_; rintro e w' ⟨rfl, hb⟩; have hc := cellOf hb; have hf := frozOf hb; have hz := sizeOf hb; try simp at hz))
    all_goals go_ret2
    all_goals exact ⟨by first | (rw [HV.out]; done) | (rw [HV.out]; rfl), by (repeat' (first | exact Below.refl _ _ | assumption | refine Below.setCell ?_ ?_ _ | refine Below.drew ?_ | refine Below.alloc ?_ ?_ _ | refine Below.trans ?_ (Below.mono (by assumption) ?_) | (simp; done) | (simp; omega) | omega))⟩
  obtain ⟨hv, hn2, hl1, hnr5, hfl, hpu, hbt⟩ := planB_facts hs0
  have HV := hid (show safeV l h v fs ps pl = (decide (idxF (outL l h) (levsTo v fs pl ps pl.length) < 0), true) by simp [safeV, hs0])
  go_enter Try.func25, Try.ntmps25
  go_wp2_with (first | (go_at_call 52; refine (c_impl_isPumpPlan _ _ _ _ _ _ _ _ _ _ _ _ _ (by first | assumption | exact Rds.below hx (by (repeat' (first | exact Below.refl _ _ | assumption | refine Below.setCell ?_ ?_ _ | refine Below.drew ?_ | refine Below.alloc ?_ ?_ _ | refine Below.trans ?_ (Below.mono (by assumption) ?_) | (simp; done) | (simp; omega) | omega)))) (by omega) (by first | assumption | exact Rds.below hy (by (repeat' (first | exact Below.refl _ _ | assumption | refine Below.setCell ?_ ?_ _ | refine Below.drew ?_ | refine Below.alloc ?_ ?_ _ | refine Below.trans ?_ (Below.mono (by assumption) ?_) | (simp; done) | (simp; omega) | omega)))) (by omega) (by first | assumption | exact Rds.below hr (by (repeat' (first | exact Below.refl _ _ | assumption | refine Below.setCell ?_ ?_ _ | refine Below.drew ?_ | refine Below.alloc ?_ ?_ _ | refine Below.trans ?_ (Below.mono (by assumption) ?_) | (simp; done) | (simp; omega) | omega)))) (by omega)).mono ?_; rintro e w' ⟨rfl, hb⟩; have hc := cellOf hb; have hf := frozOf hb; have hz := sizeOf hb; try simp at hz))
  refine wp_region_w (n := 7) [] [] (FS25_3 l h v A fs.length capf B ps.length capq C pl.length capp (levsTo v fs pl ps pl.length) (payTo pl ps pl.length) (startsTo pl ps pl.length) (pumpTo pl ps pl.length) (idxF (outL l h) (levsTo v fs pl ps pl.length)) w) rfl (by kernel_rfl) (fun _ _ d _ _ h => by cases d <;> exact h) ?_ ?_ ?_ ?_ ?_ ?_
  · intro iq
    match iq with
    | 0 | 1 | 2 | 5 | 6 => exact Stable.const _
    | 3 => exact FreshPl.stable
    | 4 => exact FreshSl.stable
    | n + 7 => exact Stable.const _
  · intro iq hi
    exact absurd hi (by simp)
  · intro iq hi
    exact absurd hi (by simp)
  · intro iq o hi hl ho vals w1 hb1 hf
    exact absurd hl (by simp)
  · intro iq o hi hl ho vals w1 hb1 hf
    match iq, hi with
    | 0, _ =>
      injection ho with ho
      subst ho
      clear hl
      simp only [fillA, List.take, List.drop, put_none, Act.put, List.setIfInBounds_toArray, List.set_cons_zero, List.set_cons_succ, Nat.reduceAdd]
      clear hf
      have hc1 := cellOf hb1
      have hf1 := frozOf hb1
      have hz1 := sizeOf hb1
      try simp at hz1
      go_wp2_with (fail)
      exact RQ.mk rfl ⟨(by first | rfl | (simp [FS25_3]; done) | (simp [FS25_3, *]; done) | (simp [FS25_3, gotV]; done) | (simp [FS25_3, gotV]; omega)), fun h => absurd h (by decide)⟩ (Below.refl _ _)
    | 1, _ =>
      injection ho with ho
      subst ho
      clear hl
      simp only [fillA, List.take, List.drop, put_none, Act.put, List.setIfInBounds_toArray, List.set_cons_zero, List.set_cons_succ, Nat.reduceAdd]
      clear hf
      have hc1 := cellOf hb1
      have hf1 := frozOf hb1
      have hz1 := sizeOf hb1
      try simp at hz1
      go_wp2_with (fail)
      exact RQ.mk rfl ⟨(by first | rfl | (simp [FS25_3]; done) | (simp [FS25_3, *]; done) | (simp [FS25_3, gotV]; done) | (simp [FS25_3, gotV]; omega)), fun h => absurd h (by decide)⟩ (Below.refl _ _)
    | 2, _ =>
      injection ho with ho
      subst ho
      clear hl
      simp only [fillA, List.take, List.drop, put_none, Act.put, List.setIfInBounds_toArray, List.set_cons_zero, List.set_cons_succ, Nat.reduceAdd]
      clear hf
      go_wp2_with (fail)
      exact RQ.mk rfl ⟨(by first | rfl | (simp [FS25_3]; done) | (simp [FS25_3, *]; done) | (simp [FS25_3, gotV]; done) | (simp [FS25_3, gotV]; omega)), fun h => absurd h (by decide)⟩ (Below.refl _ _)
    | 3, _ =>
      injection ho with ho
      subst ho
      clear hl
      simp only [fillA, List.take, List.drop, put_none, Act.put, List.setIfInBounds_toArray, List.set_cons_zero, List.set_cons_succ, Nat.reduceAdd]
      have f1 := hf 1 (by decide) (by kernel_rfl)
      generalize vals 1 = v1 at *
      subst f1
      have f2 := hf 2 (by decide) (by kernel_rfl)
      generalize vals 2 = v2 at *
      subst f2
      clear hf
      have hc1 := cellOf hb1
      have hf1 := frozOf hb1
      have hz1 := sizeOf hb1
      try simp at hz1
      go_wp2_with (first | (go_at_call 53; refine (c_impl_carriedOut _ _ _ _ fs _ _ ps _ _ pl _ _ (by first | assumption | exact Rds.below hx (by (repeat' (first | exact Below.refl _ _ | assumption | refine Below.setCell ?_ ?_ _ | refine Below.drew ?_ | refine Below.alloc ?_ ?_ _ | refine Below.trans ?_ (Below.mono (by assumption) ?_) | (simp; done) | (simp; omega) | omega)))) (by omega) (by first | assumption | exact Rds.below hy (by (repeat' (first | exact Below.refl _ _ | assumption | refine Below.setCell ?_ ?_ _ | refine Below.drew ?_ | refine Below.alloc ?_ ?_ _ | refine Below.trans ?_ (Below.mono (by assumption) ?_) | (simp; done) | (simp; omega) | omega)))) (by omega) (by first | assumption | exact Rds.below hr (by (repeat' (first | exact Below.refl _ _ | assumption | refine Below.setCell ?_ ?_ _ | refine Below.drew ?_ | refine Below.alloc ?_ ?_ _ | refine Below.trans ?_ (Below.mono (by assumption) ?_) | (simp; done) | (simp; omega) | omega)))) (by omega) (by omega) hfl hpu (by omega) (by omega) hbt).mono ?_; rintro e w' ⟨A9, c9, rfl, hF9, hb⟩; have hc := cellOf hb; have hf := frozOf hb; have hz := sizeOf hb; try simp at hz))
      exact RQ.mk rfl ⟨⟨_, _, rfl, hF9.mono (by first | omega | (simp; done) | (simp; omega) | (simp at *; omega))⟩, fun h => absurd h (by decide)⟩ (by (repeat' (first | exact Below.refl _ _ | assumption | refine Below.setCell ?_ ?_ _ | refine Below.drew ?_ | refine Below.alloc ?_ ?_ _ | refine Below.trans ?_ (Below.mono (by assumption) ?_) | (simp; done) | (simp; omega) | omega)))
    | 4, _ =>
      injection ho with ho
      subst ho
      clear hl
      simp only [fillA, List.take, List.drop, put_none, Act.put, List.setIfInBounds_toArray, List.set_cons_zero, List.set_cons_succ, Nat.reduceAdd]
      have f3 := hf 3 (by decide) (by kernel_rfl)
      generalize vals 3 = v3 at *
      obtain ⟨gr1A, gr1c, rfl, hgr1F⟩ := f3
      have hgr1r := hgr1F.rds
      clear hf
      go_wp2_with (fail)
      exact RQ.mk rfl ⟨⟨_, _, rfl, hgr1F⟩, fun h => absurd h (by decide)⟩ (by (repeat' (first | exact Below.refl _ _ | assumption | refine Below.setCell ?_ ?_ _ | refine Below.drew ?_ | refine Below.alloc ?_ ?_ _ | refine Below.trans ?_ (Below.mono (by assumption) ?_) | (simp; done) | (simp; omega) | omega)))
    | 5, _ =>
      injection ho with ho
      subst ho
      clear hl
      simp only [fillA, List.take, List.drop, put_none, Act.put, List.setIfInBounds_toArray, List.set_cons_zero, List.set_cons_succ, Nat.reduceAdd]
      have f0 := hf 0 (by decide) (by kernel_rfl)
      generalize vals 0 = v0 at *
      subst f0
      have f4 := hf 4 (by decide) (by kernel_rfl)
      generalize vals 4 = v4 at *
      obtain ⟨gr1B, gr1d, rfl, hgr1G⟩ := f4
      have hgr1s := hgr1G.rds
      clear hgr1G
      have f3 := hf 3 (by decide) (by kernel_rfl)
      generalize vals 3 = v3 at *
      obtain ⟨gr1A, gr1c, rfl, hgr1F⟩ := f3
      have hgr1r := hgr1F.rds
      clear hf
      have hc1 := cellOf hb1
      have hf1 := frozOf hb1
      have hz1 := sizeOf hb1
      try simp at hz1
      go_wp2_with (first | (go_at_call 57; refine (c_impl_firstUnsafe _ _ _ _ _ _ _ _ _ _ (levsTo v fs pl ps pl.length) _ _ _ (by first | assumption | exact Rds.below (by assumption) (by (repeat' (first | exact Below.refl _ _ | assumption | refine Below.setCell ?_ ?_ _ | refine Below.drew ?_ | refine Below.alloc ?_ ?_ _ | refine Below.trans ?_ (Below.mono (by assumption) ?_) | (simp; done) | (simp; omega) | omega)))) (levsTo_len _) (by rw [levsTo_len]; omega)).mono ?_; rintro e w' ⟨rfl, hb⟩; have hc := cellOf hb; have hf := frozOf hb; have hz := sizeOf hb; try simp at hz))
      exact RQ.mk rfl ⟨(by first | rfl | (simp [FS25_3]; done) | (simp [FS25_3, *]; done) | (simp [FS25_3, gotV]; done) | (simp [FS25_3, gotV]; omega)), fun h => absurd h (by decide)⟩ (by (repeat' (first | exact Below.refl _ _ | assumption | refine Below.setCell ?_ ?_ _ | refine Below.drew ?_ | refine Below.alloc ?_ ?_ _ | refine Below.trans ?_ (Below.mono (by assumption) ?_) | (simp; done) | (simp; omega) | omega)))
    | 6, _ =>
      injection ho with ho
      subst ho
      clear hl
      simp only [fillA, List.take, List.drop, put_none, Act.put, List.setIfInBounds_toArray, List.set_cons_zero, List.set_cons_succ, Nat.reduceAdd]
      have f5 := hf 5 (by decide) (by kernel_rfl)
      generalize vals 5 = v5 at *
      subst f5
      clear hf
      go_wp2_with (fail)
      exact RQ.mk rfl ⟨(by first | rfl | (simp [FS25_3]; done) | (simp [FS25_3, *]; done) | (simp [FS25_3, gotV]; done) | (simp [FS25_3, gotV]; omega)), fun h => absurd h (by decide)⟩ (Below.refl _ _)
  · intro vals w1 hb1 hf hd
    simp only [fillA, List.take, List.drop, put_none, Act.put, List.setIfInBounds_toArray, List.set_cons_zero, List.set_cons_succ, Nat.reduceAdd]
    clear hd
    have f0 := hf 0 (by decide)
    generalize vals 0 = v0 at *
    subst f0
    have f1 := hf 1 (by decide)
    generalize vals 1 = v1 at *
    subst f1
    have f2 := hf 2 (by decide)
    generalize vals 2 = v2 at *
    subst f2
    have f3 := hf 3 (by decide)
    generalize vals 3 = v3 at *
    obtain ⟨gr1A, gr1c, rfl, hgr1F⟩ := f3
    have hgr1r := hgr1F.rds
    have f4 := hf 4 (by decide)
    generalize vals 4 = v4 at *
    obtain ⟨gr1B, gr1d, rfl, hgr1G⟩ := f4
    have hgr1s := hgr1G.rds
    clear hgr1G
    have f5 := hf 5 (by decide)
    generalize vals 5 = v5 at *
    subst f5
    have f6 := hf 6 (by decide)
    generalize vals 6 = v6 at *
    subst f6
    clear hf
    have hc1 := cellOf hb1
    have hf1 := frozOf hb1
    have hz1 := sizeOf hb1
    try simp at hz1
    go_wp2_with (fail)
    go_ret2
    exact ⟨by first | (rw [HV.out]; done) | (rw [HV.out]; rfl), by (repeat' (first | exact Below.refl _ _ | assumption | refine Below.setCell ?_ ?_ _ | refine Below.drew ?_ | refine Below.alloc ?_ ?_ _ | refine Below.trans ?_ (Below.mono (by assumption) ?_) | (simp; done) | (simp; omega) | omega))⟩

def FS27_3 (l h vv : Int) (A : Option Addr) (nf capf : Nat) (B : Option Addr) (np capq : Nat) (C : Option Addr) (n0 capp : Nat) (L : List Int) (py st pm ix : Int) (w W0 : World) (iq : Nat) (v : Value) (w1 : World) : Prop := match iq with
  | 0 => v = .agg #[.int .i64 (l), .int .i64 (h), .int .i64 (vv), .slice A nf capf, .slice B np capq]
  | 1 => v = .agg #[.int .i64 (l), .int .i64 (h), .int .i64 (vv), .slice A nf capf, .slice B np capq]
  | 2 => v = .slice C n0 capp
  | 3 => FreshPl W0.heap.size L n0 py st pm v w1
  | 4 => FreshSl W0.heap.size L n0 v w1
  | 5 => v = .int .i64 (ix)
  | _ => True

def FS27_3_12 (l h vv : Int) (A : Option Addr) (nf capf : Nat) (B : Option Addr) (np capq : Nat) (C : Option Addr) (n0 capp : Nat) (L : List Int) (py st pm ix : Int) (w W0 : World) (iq : Nat) (v : Value) (w1 : World) : Prop := match iq with
  | 0 => v = .agg #[.int .i64 (l), .int .i64 (h), .int .i64 (vv), .slice A nf capf, .slice B np capq]
  | 1 => v = .agg #[.int .i64 (l), .int .i64 (h), .int .i64 (vv), .slice A nf capf, .slice B np capq]
  | 2 => v = .slice C n0 capp
  | 3 => FreshPl W0.heap.size L n0 py st pm v w1
  | 4 => FreshSl W0.heap.size L n0 v w1
  | 5 => v = .int .i64 (ix)
  | _ => True

set_option maxRecDepth 100000 in
set_option maxHeartbeats 4000000 in
theorem c_impl_FirstUnsafe (l h v : Int) (A : Option Addr) (fs : List Int) (capf : Nat) (B : Option Addr) (ps : List (Int × Int × Int)) (capq : Nat) (C : Option Addr) (pl : List Int) (capp : Nat) (w : World) (hx : Rds cIn 1 w A fs) (hn : fs.length ≤ 9223372036854775807) (hy : Rds cPu 3 w B ps) (hm : ps.length ≤ 9223372036854775807) (hr : Rds cIn 1 w C pl) (hnr : pl.length ≤ 9223372036854775807) :
    Calls Try.prog 27 #[.agg #[.int .i64 l, .int .i64 h, .int .i64 v, .slice A fs.length capf, .slice B ps.length capq], .slice C pl.length capp] w fun e w' => e = .returned (.tuple #[.int .i64 (unsV l h v fs ps pl).1, .bool (unsV l h v fs ps pl).2]) ∧ Below w.heap.size w w' := by
  have kf0 : ∀ (a0 a1 a2 a3 : Value) (w : World), (Instr.field 62 (.agg #[a0, a1, a2, a3]) 0).run Try.prog w = .ok a0 w := fun _ _ _ _ _ => by kernel_rfl
  have kf1 : ∀ (a0 a1 a2 a3 : Value) (w : World), (Instr.field 62 (.agg #[a0, a1, a2, a3]) 1).run Try.prog w = .ok a1 w := fun _ _ _ _ _ => by kernel_rfl
  have kf2 : ∀ (a0 a1 a2 a3 : Value) (w : World), (Instr.field 62 (.agg #[a0, a1, a2, a3]) 2).run Try.prog w = .ok a2 w := fun _ _ _ _ _ => by kernel_rfl
  have kf3 : ∀ (a0 a1 a2 a3 : Value) (w : World), (Instr.field 62 (.agg #[a0, a1, a2, a3]) 3).run Try.prog w = .ok a3 w := fun _ _ _ _ _ => by kernel_rfl
  by_cases hs0 : planB l h v fs ps pl = true
  rotate_left
  · have hn0 : planB l h v fs ps pl = false := Bool.eq_false_iff.2 hs0
    have HV := hid (show unsV l h v fs ps pl = (0, false) by simp [unsV, hn0])
    clear hs0
    go_enter Try.func27, Try.ntmps27
    go_wp2_with (first | (go_at_call 52; refine (c_impl_isPumpPlan _ _ _ _ _ _ _ _ _ _ _ _ _ (by first | assumption | exact Rds.below hx (by (repeat' (first | exact Below.refl _ _ | assumption | refine Below.setCell ?_ ?_ _ | refine Below.drew ?_ | refine Below.alloc ?_ ?_ _ | refine Below.trans ?_ (Below.mono (by assumption) ?_) | (simp; done) | (simp; omega) | omega)))) (by omega) (by first | assumption | exact Rds.below hy (by (repeat' (first | exact Below.refl _ _ | assumption | refine Below.setCell ?_ ?_ _ | refine Below.drew ?_ | refine Below.alloc ?_ ?_ _ | refine Below.trans ?_ (Below.mono (by assumption) ?_) | (simp; done) | (simp; omega) | omega)))) (by omega) (by first | assumption | exact Rds.below hr (by (repeat' (first | exact Below.refl _ _ | assumption | refine Below.setCell ?_ ?_ _ | refine Below.drew ?_ | refine Below.alloc ?_ ?_ _ | refine Below.trans ?_ (Below.mono (by assumption) ?_) | (simp; done) | (simp; omega) | omega)))) (by omega)).mono ?_; rintro e w' ⟨rfl, hb⟩; have hc := cellOf hb; have hf := frozOf hb; have hz := sizeOf hb; try simp at hz))
    all_goals go_ret2
    all_goals exact ⟨by first | (rw [HV.out]; done) | (rw [HV.out]; rfl), by (repeat' (first | exact Below.refl _ _ | assumption | refine Below.setCell ?_ ?_ _ | refine Below.drew ?_ | refine Below.alloc ?_ ?_ _ | refine Below.trans ?_ (Below.mono (by assumption) ?_) | (simp; done) | (simp; omega) | omega))⟩
  obtain ⟨hv, hn2, hl1, hnr5, hfl, hpu, hbt⟩ := planB_facts hs0
  by_cases h1 : idxF (outL l h) (levsTo v fs pl ps pl.length) < 0
  · have HV := hid (show unsV l h v fs ps pl = (0, false) by simp [unsV, hs0, h1])
    have H1 := hid h1
    clear h1
    go_enter Try.func27, Try.ntmps27
    go_wp2_with (first | (go_at_call 52; refine (c_impl_isPumpPlan _ _ _ _ _ _ _ _ _ _ _ _ _ (by first | assumption | exact Rds.below hx (by (repeat' (first | exact Below.refl _ _ | assumption | refine Below.setCell ?_ ?_ _ | refine Below.drew ?_ | refine Below.alloc ?_ ?_ _ | refine Below.trans ?_ (Below.mono (by assumption) ?_) | (simp; done) | (simp; omega) | omega)))) (by omega) (by first | assumption | exact Rds.below hy (by (repeat' (first | exact Below.refl _ _ | assumption | refine Below.setCell ?_ ?_ _ | refine Below.drew ?_ | refine Below.alloc ?_ ?_ _ | refine Below.trans ?_ (Below.mono (by assumption) ?_) | (simp; done) | (simp; omega) | omega)))) (by omega) (by first | assumption | exact Rds.below hr (by (repeat' (first | exact Below.refl _ _ | assumption | refine Below.setCell ?_ ?_ _ | refine Below.drew ?_ | refine Below.alloc ?_ ?_ _ | refine Below.trans ?_ (Below.mono (by assumption) ?_) | (simp; done) | (simp; omega) | omega)))) (by omega)).mono ?_; rintro e w' ⟨rfl, hb⟩; have hc := cellOf hb; have hf := frozOf hb; have hz := sizeOf hb; try simp at hz))
    refine wp_region_w (n := 6) [] [] (FS27_3 l h v A fs.length capf B ps.length capq C pl.length capp (levsTo v fs pl ps pl.length) (payTo pl ps pl.length) (startsTo pl ps pl.length) (pumpTo pl ps pl.length) (idxF (outL l h) (levsTo v fs pl ps pl.length)) w) rfl (by kernel_rfl) (fun _ _ d _ _ h => by cases d <;> exact h) ?_ ?_ ?_ ?_ ?_ ?_
    · intro iq
      match iq with
      | 0 | 1 | 2 | 5 => exact Stable.const _
      | 3 => exact FreshPl.stable
      | 4 => exact FreshSl.stable
      | n + 6 => exact Stable.const _
    · intro iq hi
      exact absurd hi (by simp)
    · intro iq hi
      exact absurd hi (by simp)
    · intro iq o hi hl ho vals w1 hb1 hf
      exact absurd hl (by simp)
    · intro iq o hi hl ho vals w1 hb1 hf
      match iq, hi with
      | 0, _ =>
        injection ho with ho
        subst ho
        clear hl
        simp only [fillA, List.take, List.drop, put_none, Act.put, List.setIfInBounds_toArray, List.set_cons_zero, List.set_cons_succ, Nat.reduceAdd]
        clear hf
        have hc1 := cellOf hb1
        have hf1 := frozOf hb1
        have hz1 := sizeOf hb1
        try simp at hz1
        go_wp2_with (fail)
        exact RQ.mk rfl ⟨(by first | rfl | (simp [FS27_3]; done) | (simp [FS27_3, *]; done) | (simp [FS27_3, gotV]; done) | (simp [FS27_3, gotV]; omega)), fun h => absurd h (by decide)⟩ (Below.refl _ _)
      | 1, _ =>
        injection ho with ho
        subst ho
        clear hl
        simp only [fillA, List.take, List.drop, put_none, Act.put, List.setIfInBounds_toArray, List.set_cons_zero, List.set_cons_succ, Nat.reduceAdd]
        clear hf
        have hc1 := cellOf hb1
        have hf1 := frozOf hb1
        have hz1 := sizeOf hb1
        try simp at hz1
        go_wp2_with (fail)
        exact RQ.mk rfl ⟨(by first | rfl | (simp [FS27_3]; done) | (simp [FS27_3, *]; done) | (simp [FS27_3, gotV]; done) | (simp [FS27_3, gotV]; omega)), fun h => absurd h (by decide)⟩ (Below.refl _ _)
      | 2, _ =>
        injection ho with ho
        subst ho
        clear hl
        simp only [fillA, List.take, List.drop, put_none, Act.put, List.setIfInBounds_toArray, List.set_cons_zero, List.set_cons_succ, Nat.reduceAdd]
        clear hf
        go_wp2_with (fail)
        exact RQ.mk rfl ⟨(by first | rfl | (simp [FS27_3]; done) | (simp [FS27_3, *]; done) | (simp [FS27_3, gotV]; done) | (simp [FS27_3, gotV]; omega)), fun h => absurd h (by decide)⟩ (Below.refl _ _)
      | 3, _ =>
        injection ho with ho
        subst ho
        clear hl
        simp only [fillA, List.take, List.drop, put_none, Act.put, List.setIfInBounds_toArray, List.set_cons_zero, List.set_cons_succ, Nat.reduceAdd]
        have f1 := hf 1 (by decide) (by kernel_rfl)
        generalize vals 1 = v1 at *
        subst f1
        have f2 := hf 2 (by decide) (by kernel_rfl)
        generalize vals 2 = v2 at *
        subst f2
        clear hf
        have hc1 := cellOf hb1
        have hf1 := frozOf hb1
        have hz1 := sizeOf hb1
        try simp at hz1
        go_wp2_with (first | (go_at_call 53; refine (c_impl_carriedOut _ _ _ _ fs _ _ ps _ _ pl _ _ (by first | assumption | exact Rds.below hx (by (repeat' (first | exact Below.refl _ _ | assumption | refine Below.setCell ?_ ?_ _ | refine Below.drew ?_ | refine Below.alloc ?_ ?_ _ | refine Below.trans ?_ (Below.mono (by assumption) ?_) | (simp; done) | (simp; omega) | omega)))) (by omega) (by first | assumption | exact Rds.below hy (by (repeat' (first | exact Below.refl _ _ | assumption | refine Below.setCell ?_ ?_ _ | refine Below.drew ?_ | refine Below.alloc ?_ ?_ _ | refine Below.trans ?_ (Below.mono (by assumption) ?_) | (simp; done) | (simp; omega) | omega)))) (by omega) (by first | assumption | exact Rds.below hr (by (repeat' (first | exact Below.refl _ _ | assumption | refine Below.setCell ?_ ?_ _ | refine Below.drew ?_ | refine Below.alloc ?_ ?_ _ | refine Below.trans ?_ (Below.mono (by assumption) ?_) | (simp; done) | (simp; omega) | omega)))) (by omega) (by omega) hfl hpu (by omega) (by omega) hbt).mono ?_; rintro e w' ⟨A9, c9, rfl, hF9, hb⟩; have hc := cellOf hb; have hf := frozOf hb; have hz := sizeOf hb; try simp at hz))
        exact RQ.mk rfl ⟨⟨_, _, rfl, hF9.mono (by first | omega | (simp; done) | (simp; omega) | (simp at *; omega))⟩, fun h => absurd h (by decide)⟩ (by (repeat' (first | exact Below.refl _ _ | assumption | refine Below.setCell ?_ ?_ _ | refine Below.drew ?_ | refine Below.alloc ?_ ?_ _ | refine Below.trans ?_ (Below.mono (by assumption) ?_) | (simp; done) | (simp; omega) | omega)))
      | 4, _ =>
        injection ho with ho
        subst ho
        clear hl
        simp only [fillA, List.take, List.drop, put_none, Act.put, List.setIfInBounds_toArray, List.set_cons_zero, List.set_cons_succ, Nat.reduceAdd]
        have f3 := hf 3 (by decide) (by kernel_rfl)
        generalize vals 3 = v3 at *
        obtain ⟨gr1A, gr1c, rfl, hgr1F⟩ := f3
        have hgr1r := hgr1F.rds
        clear hf
        go_wp2_with (fail)
        exact RQ.mk rfl ⟨⟨_, _, rfl, hgr1F⟩, fun h => absurd h (by decide)⟩ (by (repeat' (first | exact Below.refl _ _ | assumption | refine Below.setCell ?_ ?_ _ | refine Below.drew ?_ | refine Below.alloc ?_ ?_ _ | refine Below.trans ?_ (Below.mono (by assumption) ?_) | (simp; done) | (simp; omega) | omega)))
      | 5, _ =>
        injection ho with ho
        subst ho
        clear hl
        simp only [fillA, List.take, List.drop, put_none, Act.put, List.setIfInBounds_toArray, List.set_cons_zero, List.set_cons_succ, Nat.reduceAdd]
        have f0 := hf 0 (by decide) (by kernel_rfl)
        generalize vals 0 = v0 at *
        subst f0
        have f4 := hf 4 (by decide) (by kernel_rfl)
        generalize vals 4 = v4 at *
        obtain ⟨gr1B, gr1d, rfl, hgr1G⟩ := f4
        have hgr1s := hgr1G.rds
        clear hgr1G
        have f3 := hf 3 (by decide) (by kernel_rfl)
        generalize vals 3 = v3 at *
        obtain ⟨gr1A, gr1c, rfl, hgr1F⟩ := f3
        have hgr1r := hgr1F.rds
        clear hf
        have hc1 := cellOf hb1
        have hf1 := frozOf hb1
        have hz1 := sizeOf hb1
        try simp at hz1
        go_wp2_with (first | (go_at_call 57; refine (c_impl_firstUnsafe _ _ _ _ _ _ _ _ _ _ (levsTo v fs pl ps pl.length) _ _ _ (by first | assumption | exact Rds.below (by assumption) (by (repeat' (first | exact Below.refl _ _ | assumption | refine Below.setCell ?_ ?_ _ | refine Below.drew ?_ | refine Below.alloc ?_ ?_ _ | refine Below.trans ?_ (Below.mono (by assumption) ?_) | (simp; done) | (simp; omega) | omega)))) (levsTo_len _) (by rw [levsTo_len]; omega)).mono ?_; rintro e w' ⟨rfl, hb⟩; have hc := cellOf hb; have hf := frozOf hb; have hz := sizeOf hb; try simp at hz))
        exact RQ.mk rfl ⟨(by first | rfl | (simp [FS27_3]; done) | (simp [FS27_3, *]; done) | (simp [FS27_3, gotV]; done) | (simp [FS27_3, gotV]; omega)), fun h => absurd h (by decide)⟩ (by (repeat' (first | exact Below.refl _ _ | assumption | refine Below.setCell ?_ ?_ _ | refine Below.drew ?_ | refine Below.alloc ?_ ?_ _ | refine Below.trans ?_ (Below.mono (by assumption) ?_) | (simp; done) | (simp; omega) | omega)))
    · intro vals w1 hb1 hf hd
      simp only [fillA, List.take, List.drop, put_none, Act.put, List.setIfInBounds_toArray, List.set_cons_zero, List.set_cons_succ, Nat.reduceAdd]
      clear hd
      have f0 := hf 0 (by decide)
      generalize vals 0 = v0 at *
      subst f0
      have f1 := hf 1 (by decide)
      generalize vals 1 = v1 at *
      subst f1
      have f2 := hf 2 (by decide)
      generalize vals 2 = v2 at *
      subst f2
      have f3 := hf 3 (by decide)
      generalize vals 3 = v3 at *
      obtain ⟨gr1A, gr1c, rfl, hgr1F⟩ := f3
      have hgr1r := hgr1F.rds
      have f4 := hf 4 (by decide)
      generalize vals 4 = v4 at *
      obtain ⟨gr1B, gr1d, rfl, hgr1G⟩ := f4
      have hgr1s := hgr1G.rds
      clear hgr1G
      have f5 := hf 5 (by decide)
      generalize vals 5 = v5 at *
      subst f5
      clear hf
      have hc1 := cellOf hb1
      have hf1 := frozOf hb1
      have hz1 := sizeOf hb1
      try simp at hz1
      have h1 := H1.out
      go_wp2_with (fail)
      go_ret2
      exact ⟨by first | (rw [HV.out]; done) | (rw [HV.out]; rfl), by (repeat' (first | exact Below.refl _ _ | assumption | refine Below.setCell ?_ ?_ _ | refine Below.drew ?_ | refine Below.alloc ?_ ?_ _ | refine Below.trans ?_ (Below.mono (by assumption) ?_) | (simp; done) | (simp; omega) | omega))⟩
  · have HV := hid (show unsV l h v fs ps pl = (idxF (outL l h) (levsTo v fs pl ps pl.length), true) by simp [unsV, hs0, h1])
    have H1 := hid h1
    clear h1
    go_enter Try.func27, Try.ntmps27
    go_wp2_with (first | (go_at_call 52; refine (c_impl_isPumpPlan _ _ _ _ _ _ _ _ _ _ _ _ _ (by first | assumption | exact Rds.below hx (by (repeat' (first | exact Below.refl _ _ | assumption | refine Below.setCell ?_ ?_ _ | refine Below.drew ?_ | refine Below.alloc ?_ ?_ _ | refine Below.trans ?_ (Below.mono (by assumption) ?_) | (simp; done) | (simp; omega) | omega)))) (by omega) (by first | assumption | exact Rds.below hy (by (repeat' (first | exact Below.refl _ _ | assumption | refine Below.setCell ?_ ?_ _ | refine Below.drew ?_ | refine Below.alloc ?_ ?_ _ | refine Below.trans ?_ (Below.mono (by assumption) ?_) | (simp; done) | (simp; omega) | omega)))) (by omega) (by first | assumption | exact Rds.below hr (by (repeat' (first | exact Below.refl _ _ | assumption | refine Below.setCell ?_ ?_ _ | refine Below.drew ?_ | refine Below.alloc ?_ ?_ _ | refine Below.trans ?_ (Below.mono (by assumption) ?_) | (simp; done) | (simp; omega) | omega)))) (by omega)).mono ?_; rintro e w' ⟨rfl, hb⟩; have hc := cellOf hb; have hf := frozOf hb; have hz := sizeOf hb; try simp at hz))
    refine wp_region_w (n := 6) [] [] (FS27_3_12 l h v A fs.length capf B ps.length capq C pl.length capp (levsTo v fs pl ps pl.length) (payTo pl ps pl.length) (startsTo pl ps pl.length) (pumpTo pl ps pl.length) (idxF (outL l h) (levsTo v fs pl ps pl.length)) w) rfl (by kernel_rfl) (fun _ _ d _ _ h => by cases d <;> exact h) ?_ ?_ ?_ ?_ ?_ ?_
    · intro iq
      match iq with
      | 0 | 1 | 2 | 5 => exact Stable.const _
      | 3 => exact FreshPl.stable
      | 4 => exact FreshSl.stable
      | n + 6 => exact Stable.const _
    · intro iq hi
      exact absurd hi (by simp)
    · intro iq hi
      exact absurd hi (by simp)
    · intro iq o hi hl ho vals w1 hb1 hf
      exact absurd hl (by simp)
    · intro iq o hi hl ho vals w1 hb1 hf
      match iq, hi with
      | 0, _ =>
        injection ho with ho
        subst ho
        clear hl
        simp only [fillA, List.take, List.drop, put_none, Act.put, List.setIfInBounds_toArray, List.set_cons_zero, List.set_cons_succ, Nat.reduceAdd]
        clear hf
        have hc1 := cellOf hb1
        have hf1 := frozOf hb1
        have hz1 := sizeOf hb1
        try simp at hz1
        go_wp2_with (fail)
        exact RQ.mk rfl ⟨(by first | rfl | (simp [FS27_3_12]; done) | (simp [FS27_3_12, *]; done) | (simp [FS27_3_12, gotV]; done) | (simp [FS27_3_12, gotV]; omega)), fun h => absurd h (by decide)⟩ (Below.refl _ _)
      | 1, _ =>
        injection ho with ho
        subst ho
        clear hl
        simp only [fillA, List.take, List.drop, put_none, Act.put, List.setIfInBounds_toArray, List.set_cons_zero, List.set_cons_succ, Nat.reduceAdd]
        clear hf
        have hc1 := cellOf hb1
        have hf1 := frozOf hb1
        have hz1 := sizeOf hb1
        try simp at hz1
        go_wp2_with (fail)
        exact RQ.mk rfl ⟨(by first | rfl | (simp [FS27_3_12]; done) | (simp [FS27_3_12, *]; done) | (simp [FS27_3_12, gotV]; done) | (simp [FS27_3_12, gotV]; omega)), fun h => absurd h (by decide)⟩ (Below.refl _ _)
      | 2, _ =>
        injection ho with ho
        subst ho
        clear hl
        simp only [fillA, List.take, List.drop, put_none, Act.put, List.setIfInBounds_toArray, List.set_cons_zero, List.set_cons_succ, Nat.reduceAdd]
        clear hf
        go_wp2_with (fail)
        exact RQ.mk rfl ⟨(by first | rfl | (simp [FS27_3_12]; done) | (simp [FS27_3_12, *]; done) | (simp [FS27_3_12, gotV]; done) | (simp [FS27_3_12, gotV]; omega)), fun h => absurd h (by decide)⟩ (Below.refl _ _)
      | 3, _ =>
        injection ho with ho
        subst ho
        clear hl
        simp only [fillA, List.take, List.drop, put_none, Act.put, List.setIfInBounds_toArray, List.set_cons_zero, List.set_cons_succ, Nat.reduceAdd]
        have f1 := hf 1 (by decide) (by kernel_rfl)
        generalize vals 1 = v1 at *
        subst f1
        have f2 := hf 2 (by decide) (by kernel_rfl)
        generalize vals 2 = v2 at *
        subst f2
        clear hf
        have hc1 := cellOf hb1
        have hf1 := frozOf hb1
        have hz1 := sizeOf hb1
        try simp at hz1
        go_wp2_with (first | (go_at_call 53; refine (c_impl_carriedOut _ _ _ _ fs _ _ ps _ _ pl _ _ (by first | assumption | exact Rds.below hx (by (repeat' (first | exact Below.refl _ _ | assumption | refine Below.setCell ?_ ?_ _ | refine Below.drew ?_ | refine Below.alloc ?_ ?_ _ | refine Below.trans ?_ (Below.mono (by assumption) ?_) | (simp; done) | (simp; omega) | omega)))) (by omega) (by first | assumption | exact Rds.below hy (by (repeat' (first | exact Below.refl _ _ | assumption | refine Below.setCell ?_ ?_ _ | refine Below.drew ?_ | refine Below.alloc ?_ ?_ _ | refine Below.trans ?_ (Below.mono (by assumption) ?_) | (simp; done) | (simp; omega) | omega)))) (by omega) (by first | assumption | exact Rds.below hr (by (repeat' (first | exact Below.refl _ _ | assumption | refine Below.setCell ?_ ?_ _ | refine Below.drew ?_ | refine Below.alloc ?_ ?_ _ | refine Below.trans ?_ (Below.mono (by assumption) ?_) | (simp; done) | (simp; omega) | omega)))) (by omega) (by omega) hfl hpu (by omega) (by omega) hbt).mono ?_; rintro e w' ⟨A9, c9, rfl, hF9, hb⟩; have hc := cellOf hb; have hf := frozOf hb; have hz := sizeOf hb; try simp at hz))
        exact RQ.mk rfl ⟨⟨_, _, rfl, hF9.mono (by first | omega | (simp; done) | (simp; omega) | (simp at *; omega))⟩, fun h => absurd h (by decide)⟩ (by (repeat' (first | exact Below.refl _ _ | assumption | refine Below.setCell ?_ ?_ _ | refine Below.drew ?_ | refine Below.alloc ?_ ?_ _ | refine Below.trans ?_ (Below.mono (by assumption) ?_) | (simp; done) | (simp; omega) | omega)))
      | 4, _ =>
        injection ho with ho
        subst ho
        clear hl
        simp only [fillA, List.take, List.drop, put_none, Act.put, List.setIfInBounds_toArray, List.set_cons_zero, List.set_cons_succ, Nat.reduceAdd]
        have f3 := hf 3 (by decide) (by kernel_rfl)
        generalize vals 3 = v3 at *
        obtain ⟨gr1A, gr1c, rfl, hgr1F⟩ := f3
        have hgr1r := hgr1F.rds
        clear hf
        go_wp2_with (fail)
        exact RQ.mk rfl ⟨⟨_, _, rfl, hgr1F⟩, fun h => absurd h (by decide)⟩ (by (repeat' (first | exact Below.refl _ _ | assumption | refine Below.setCell ?_ ?_ _ | refine Below.drew ?_ | refine Below.alloc ?_ ?_ _ | refine Below.trans ?_ (Below.mono (by assumption) ?_) | (simp; done) | (simp; omega) | omega)))
      | 5, _ =>
        injection ho with ho
        subst ho
        clear hl
        simp only [fillA, List.take, List.drop, put_none, Act.put, List.setIfInBounds_toArray, List.set_cons_zero, List.set_cons_succ, Nat.reduceAdd]
        have f0 := hf 0 (by decide) (by kernel_rfl)
        generalize vals 0 = v0 at *
        subst f0
        have f4 := hf 4 (by decide) (by kernel_rfl)
        generalize vals 4 = v4 at *
        obtain ⟨gr1B, gr1d, rfl, hgr1G⟩ := f4
        have hgr1s := hgr1G.rds
        clear hgr1G
        have f3 := hf 3 (by decide) (by kernel_rfl)
        generalize vals 3 = v3 at *
        obtain ⟨gr1A, gr1c, rfl, hgr1F⟩ := f3
        have hgr1r := hgr1F.rds
        clear hf
        have hc1 := cellOf hb1
        have hf1 := frozOf hb1
        have hz1 := sizeOf hb1
        try simp at hz1
        go_wp2_with (first | (go_at_call 57; refine (c_impl_firstUnsafe _ _ _ _ _ _ _ _ _ _ (levsTo v fs pl ps pl.length) _ _ _ (by first | assumption | exact Rds.below (by assumption) (by (repeat' (first | exact Below.refl _ _ | assumption | refine Below.setCell ?_ ?_ _ | refine Below.drew ?_ | refine Below.alloc ?_ ?_ _ | refine Below.trans ?_ (Below.mono (by assumption) ?_) | (simp; done) | (simp; omega) | omega)))) (levsTo_len _) (by rw [levsTo_len]; omega)).mono ?_; rintro e w' ⟨rfl, hb⟩; have hc := cellOf hb; have hf := frozOf hb; have hz := sizeOf hb; try simp at hz))
        exact RQ.mk rfl ⟨(by first | rfl | (simp [FS27_3_12]; done) | (simp [FS27_3_12, *]; done) | (simp [FS27_3_12, gotV]; done) | (simp [FS27_3_12, gotV]; omega)), fun h => absurd h (by decide)⟩ (by (repeat' (first | exact Below.refl _ _ | assumption | refine Below.setCell ?_ ?_ _ | refine Below.drew ?_ | refine Below.alloc ?_ ?_ _ | refine Below.trans ?_ (Below.mono (by assumption) ?_) | (simp; done) | (simp; omega) | omega)))
    · intro vals w1 hb1 hf hd
      simp only [fillA, List.take, List.drop, put_none, Act.put, List.setIfInBounds_toArray, List.set_cons_zero, List.set_cons_succ, Nat.reduceAdd]
      clear hd
      have f0 := hf 0 (by decide)
      generalize vals 0 = v0 at *
      subst f0
      have f1 := hf 1 (by decide)
      generalize vals 1 = v1 at *
      subst f1
      have f2 := hf 2 (by decide)
      generalize vals 2 = v2 at *
      subst f2
      have f3 := hf 3 (by decide)
      generalize vals 3 = v3 at *
      obtain ⟨gr1A, gr1c, rfl, hgr1F⟩ := f3
      have hgr1r := hgr1F.rds
      have f4 := hf 4 (by decide)
      generalize vals 4 = v4 at *
      obtain ⟨gr1B, gr1d, rfl, hgr1G⟩ := f4
      have hgr1s := hgr1G.rds
      clear hgr1G
      have f5 := hf 5 (by decide)
      generalize vals 5 = v5 at *
      subst f5
      clear hf
      have hc1 := cellOf hb1
      have hf1 := frozOf hb1
      have hz1 := sizeOf hb1
      try simp at hz1
      have h1 := H1.out
      go_wp2_with (fail)
      go_ret2
      exact ⟨by first | (rw [HV.out]; done) | (rw [HV.out]; rfl), by (repeat' (first | exact Below.refl _ _ | assumption | refine Below.setCell ?_ ?_ _ | refine Below.drew ?_ | refine Below.alloc ?_ ?_ _ | refine Below.trans ?_ (Below.mono (by assumption) ?_) | (simp; done) | (simp; omega) | omega))⟩

end Go.Proofs.Ytpaclngjmdacjaa
namespace Go.Proofs.Ytpaclngjmdacjaa
set_option linter.unusedSimpArgs false
set_option linter.unusedVariables false
open Go.RowKit

set_option maxRecDepth 100000 in
set_option maxHeartbeats 4000000 in
theorem c_spec_IsSafePlan (l h v : Int) (A : Option Addr) (fs : List Int) (capf : Nat) (B : Option Addr) (ps : List (Int × Int × Int)) (capq : Nat) (C : Option Addr) (pl : List Int) (capp : Nat) (w : World) (hx : Rds cIn 1 w A fs) (hn : fs.length ≤ 9223372036854775807) (hy : Rds cPu 3 w B ps) (hm : ps.length ≤ 9223372036854775807) (hr : Rds cIn 1 w C pl) (hnr : pl.length ≤ 9223372036854775807) :
    Calls Try.prog 24 #[.agg #[.int .i64 l, .int .i64 h, .int .i64 v, .slice A fs.length capf, .slice B ps.length capq], .slice C pl.length capp] w fun e w' => e = .returned (.tuple #[.bool (safeV l h v fs ps pl).1, .bool (safeV l h v fs ps pl).2]) ∧ Below w.heap.size w w' := by
  skip
  by_cases hs0 : planB l h v fs ps pl = true
  rotate_left
  · have hn0 : planB l h v fs ps pl = false := Bool.eq_false_iff.2 hs0
    have HV := hid (show safeV l h v fs ps pl = (false, false) by simp [safeV, hn0])
    clear hs0
    go_enter Try.func24, Try.ntmps24
    go_wp2_with (first | (go_at_call 49; refine (c_spec_l12Plan _ _ _ _ _ _ _ _ _ _ _ _ _ (by first | assumption | exact Rds.below hx (by (repeat' (first | exact Below.refl _ _ | assumption | refine Below.setCell ?_ ?_ _ | refine Below.drew ?_ | refine Below.alloc ?_ ?_ _ | refine Below.trans ?_ (Below.mono (by assumption) ?_) | (simp; done) | (simp; omega) | omega)))) (by omega) (by first | assumption | exact Rds.below hy (by (repeat' (first | exact Below.refl _ _ | assumption | refine Below.setCell ?_ ?_ _ | refine Below.drew ?_ | refine Below.alloc ?_ ?_ _ | refine Below.trans ?_ (Below.mono (by assumption) ?_) | (simp; done) | (simp; omega) | omega)))) (by omega) (by first | assumption | exact Rds.below hr (by (repeat' (first | exact Below.refl _ _ | assumption | refine Below.setCell ?_ ?_ _ | refine Below.drew ?_ | refine Below.alloc ?_ ?_ _ | refine Below.trans ?_ (Below.mono (by assumption) ?_) | (simp; done) | (simp; omega) | omega)))) (by omega)).mono ?_; rintro e w' ⟨rfl, hb⟩; have hc := cellOf hb; have hf := frozOf hb; have hz := sizeOf hb; try simp at hz))
    all_goals go_ret2
    all_goals exact ⟨by first | (rw [HV.out]; done) | (rw [HV.out]; rfl), by (repeat' (first | exact Below.refl _ _ | assumption | refine Below.setCell ?_ ?_ _ | refine Below.drew ?_ | refine Below.alloc ?_ ?_ _ | refine Below.trans ?_ (Below.mono (by assumption) ?_) | (simp; done) | (simp; omega) | omega))⟩
  obtain ⟨hv, hn2, hl1, hnr5, hfl, hpu, hbt⟩ := planB_facts hs0
  have HV := hid (show safeV l h v fs ps pl = (decide (idxF (outL l h) (levsTo v fs pl ps pl.length) < 0), true) by simp [safeV, hs0])
  go_enter Try.func24, Try.ntmps24
  go_wp2_with (first | (first | (go_at_call 49; refine (c_spec_l12Plan _ _ _ _ _ _ _ _ _ _ _ _ _ (by first | assumption | exact Rds.below hx (by (repeat' (first | exact Below.refl _ _ | assumption | refine Below.setCell ?_ ?_ _ | refine Below.drew ?_ | refine Below.alloc ?_ ?_ _ | refine Below.trans ?_ (Below.mono (by assumption) ?_) | (simp; done) | (simp; omega) | omega)))) (by omega) (by first | assumption | exact Rds.below hy (by (repeat' (first | exact Below.refl _ _ | assumption | refine Below.setCell ?_ ?_ _ | refine Below.drew ?_ | refine Below.alloc ?_ ?_ _ | refine Below.trans ?_ (Below.mono (by assumption) ?_) | (simp; done) | (simp; omega) | omega)))) (by omega) (by first | assumption | exact Rds.below hr (by (repeat' (first | exact Below.refl _ _ | assumption | refine Below.setCell ?_ ?_ _ | refine Below.drew ?_ | refine Below.alloc ?_ ?_ _ | refine Below.trans ?_ (Below.mono (by assumption) ?_) | (simp; done) | (simp; omega) | omega)))) (by omega)).mono ?_; rintro e w' ⟨rfl, hb⟩; have hc := cellOf hb; have hf := frozOf hb; have hz := sizeOf hb; try simp at hz)) | (go_at_call 56; refine (c_spec_l12Unsafe _ _ _ _ fs _ _ ps _ _ pl _ _ (by first | assumption | exact Rds.below hx (by (repeat' (first | exact Below.refl _ _ | assumption | refine Below.setCell ?_ ?_ _ | refine Below.drew ?_ | refine Below.alloc ?_ ?_ _ | refine Below.trans ?_ (Below.mono (by assumption) ?_) | (simp; done) | (simp; omega) | omega)))) (by omega) (by first | assumption | exact Rds.below hy (by (repeat' (first | exact Below.refl _ _ | assumption | refine Below.setCell ?_ ?_ _ | refine Below.drew ?_ | refine Below.alloc ?_ ?_ _ | refine Below.trans ?_ (Below.mono (by assumption) ?_) | (simp; done) | (simp; omega) | omega)))) (by omega) (by first | assumption | exact Rds.below hr (by (repeat' (first | exact Below.refl _ _ | assumption | refine Below.setCell ?_ ?_ _ | refine Below.drew ?_ | refine Below.alloc ?_ ?_ _ | refine Below.trans ?_ (Below.mono (by assumption) ?_) | (simp; done) | (simp; omega) | omega)))) (by omega) (by omega) hfl hpu (by omega) (by omega) hbt).mono ?_; rintro e w' ⟨rfl, hb⟩; have hc := cellOf hb; have hf := frozOf hb; have hz := sizeOf hb; try simp at hz))
  go_ret2
  exact ⟨by first | (rw [HV.out]; done) | (rw [HV.out]; rfl), by (repeat' (first | exact Below.refl _ _ | assumption | refine Below.setCell ?_ ?_ _ | refine Below.drew ?_ | refine Below.alloc ?_ ?_ _ | refine Below.trans ?_ (Below.mono (by assumption) ?_) | (simp; done) | (simp; omega) | omega))⟩

set_option maxRecDepth 100000 in
set_option maxHeartbeats 4000000 in
theorem c_spec_FirstUnsafe (l h v : Int) (A : Option Addr) (fs : List Int) (capf : Nat) (B : Option Addr) (ps : List (Int × Int × Int)) (capq : Nat) (C : Option Addr) (pl : List Int) (capp : Nat) (w : World) (hx : Rds cIn 1 w A fs) (hn : fs.length ≤ 9223372036854775807) (hy : Rds cPu 3 w B ps) (hm : ps.length ≤ 9223372036854775807) (hr : Rds cIn 1 w C pl) (hnr : pl.length ≤ 9223372036854775807) :
    Calls Try.prog 26 #[.agg #[.int .i64 l, .int .i64 h, .int .i64 v, .slice A fs.length capf, .slice B ps.length capq], .slice C pl.length capp] w fun e w' => e = .returned (.tuple #[.int .i64 (unsV l h v fs ps pl).1, .bool (unsV l h v fs ps pl).2]) ∧ Below w.heap.size w w' := by
  by_cases hs0 : planB l h v fs ps pl = true
  rotate_left
  · have hn0 : planB l h v fs ps pl = false := Bool.eq_false_iff.2 hs0
    have HV := hid (show unsV l h v fs ps pl = (0, false) by simp [unsV, hn0])
    clear hs0
    go_enter Try.func26, Try.ntmps26
    go_wp2_with (first | (go_at_call 49; refine (c_spec_l12Plan _ _ _ _ _ _ _ _ _ _ _ _ _ (by first | assumption | exact Rds.below hx (by (repeat' (first | exact Below.refl _ _ | assumption | refine Below.setCell ?_ ?_ _ | refine Below.drew ?_ | refine Below.alloc ?_ ?_ _ | refine Below.trans ?_ (Below.mono (by assumption) ?_) | (simp; done) | (simp; omega) | omega)))) (by omega) (by first | assumption | exact Rds.below hy (by (repeat' (first | exact Below.refl _ _ | assumption | refine Below.setCell ?_ ?_ _ | refine Below.drew ?_ | refine Below.alloc ?_ ?_ _ | refine Below.trans ?_ (Below.mono (by assumption) ?_) | (simp; done) | (simp; omega) | omega)))) (by omega) (by first | assumption | exact Rds.below hr (by (repeat' (first | exact Below.refl _ _ | assumption | refine Below.setCell ?_ ?_ _ | refine Below.drew ?_ | refine Below.alloc ?_ ?_ _ | refine Below.trans ?_ (Below.mono (by assumption) ?_) | (simp; done) | (simp; omega) | omega)))) (by omega)).mono ?_; rintro e w' ⟨rfl, hb⟩; have hc := cellOf hb; have hf := frozOf hb; have hz := sizeOf hb; try simp at hz))
    all_goals go_ret2
    all_goals exact ⟨by first | (rw [HV.out]; done) | (rw [HV.out]; rfl), by (repeat' (first | exact Below.refl _ _ | assumption | refine Below.setCell ?_ ?_ _ | refine Below.drew ?_ | refine Below.alloc ?_ ?_ _ | refine Below.trans ?_ (Below.mono (by assumption) ?_) | (simp; done) | (simp; omega) | omega))⟩
  obtain ⟨hv, hn2, hl1, hnr5, hfl, hpu, hbt⟩ := planB_facts hs0
  by_cases h1 : idxF (outL l h) (levsTo v fs pl ps pl.length) < 0
  · have HV := hid (show unsV l h v fs ps pl = (0, false) by simp [unsV, hs0, h1])
    go_enter Try.func26, Try.ntmps26
    go_wp2_with (first | (first | (go_at_call 49; refine (c_spec_l12Plan _ _ _ _ _ _ _ _ _ _ _ _ _ (by first | assumption | exact Rds.below hx (by (repeat' (first | exact Below.refl _ _ | assumption | refine Below.setCell ?_ ?_ _ | refine Below.drew ?_ | refine Below.alloc ?_ ?_ _ | refine Below.trans ?_ (Below.mono (by assumption) ?_) | (simp; done) | (simp; omega) | omega)))) (by omega) (by first | assumption | exact Rds.below hy (by (repeat' (first | exact Below.refl _ _ | assumption | refine Below.setCell ?_ ?_ _ | refine Below.drew ?_ | refine Below.alloc ?_ ?_ _ | refine Below.trans ?_ (Below.mono (by assumption) ?_) | (simp; done) | (simp; omega) | omega)))) (by omega) (by first | assumption | exact Rds.below hr (by (repeat' (first | exact Below.refl _ _ | assumption | refine Below.setCell ?_ ?_ _ | refine Below.drew ?_ | refine Below.alloc ?_ ?_ _ | refine Below.trans ?_ (Below.mono (by assumption) ?_) | (simp; done) | (simp; omega) | omega)))) (by omega)).mono ?_; rintro e w' ⟨rfl, hb⟩; have hc := cellOf hb; have hf := frozOf hb; have hz := sizeOf hb; try simp at hz)) | (go_at_call 56; refine (c_spec_l12Unsafe _ _ _ _ fs _ _ ps _ _ pl _ _ (by first | assumption | exact Rds.below hx (by (repeat' (first | exact Below.refl _ _ | assumption | refine Below.setCell ?_ ?_ _ | refine Below.drew ?_ | refine Below.alloc ?_ ?_ _ | refine Below.trans ?_ (Below.mono (by assumption) ?_) | (simp; done) | (simp; omega) | omega)))) (by omega) (by first | assumption | exact Rds.below hy (by (repeat' (first | exact Below.refl _ _ | assumption | refine Below.setCell ?_ ?_ _ | refine Below.drew ?_ | refine Below.alloc ?_ ?_ _ | refine Below.trans ?_ (Below.mono (by assumption) ?_) | (simp; done) | (simp; omega) | omega)))) (by omega) (by first | assumption | exact Rds.below hr (by (repeat' (first | exact Below.refl _ _ | assumption | refine Below.setCell ?_ ?_ _ | refine Below.drew ?_ | refine Below.alloc ?_ ?_ _ | refine Below.trans ?_ (Below.mono (by assumption) ?_) | (simp; done) | (simp; omega) | omega)))) (by omega) (by omega) hfl hpu (by omega) (by omega) hbt).mono ?_; rintro e w' ⟨rfl, hb⟩; have hc := cellOf hb; have hf := frozOf hb; have hz := sizeOf hb; try simp at hz))
    go_ret2
    exact ⟨by first | (rw [HV.out]; done) | (rw [HV.out]; rfl), by (repeat' (first | exact Below.refl _ _ | assumption | refine Below.setCell ?_ ?_ _ | refine Below.drew ?_ | refine Below.alloc ?_ ?_ _ | refine Below.trans ?_ (Below.mono (by assumption) ?_) | (simp; done) | (simp; omega) | omega))⟩
  · have HV := hid (show unsV l h v fs ps pl = (idxF (outL l h) (levsTo v fs pl ps pl.length), true) by simp [unsV, hs0, h1])
    go_enter Try.func26, Try.ntmps26
    go_wp2_with (first | (first | (go_at_call 49; refine (c_spec_l12Plan _ _ _ _ _ _ _ _ _ _ _ _ _ (by first | assumption | exact Rds.below hx (by (repeat' (first | exact Below.refl _ _ | assumption | refine Below.setCell ?_ ?_ _ | refine Below.drew ?_ | refine Below.alloc ?_ ?_ _ | refine Below.trans ?_ (Below.mono (by assumption) ?_) | (simp; done) | (simp; omega) | omega)))) (by omega) (by first | assumption | exact Rds.below hy (by (repeat' (first | exact Below.refl _ _ | assumption | refine Below.setCell ?_ ?_ _ | refine Below.drew ?_ | refine Below.alloc ?_ ?_ _ | refine Below.trans ?_ (Below.mono (by assumption) ?_) | (simp; done) | (simp; omega) | omega)))) (by omega) (by first | assumption | exact Rds.below hr (by (repeat' (first | exact Below.refl _ _ | assumption | refine Below.setCell ?_ ?_ _ | refine Below.drew ?_ | refine Below.alloc ?_ ?_ _ | refine Below.trans ?_ (Below.mono (by assumption) ?_) | (simp; done) | (simp; omega) | omega)))) (by omega)).mono ?_; rintro e w' ⟨rfl, hb⟩; have hc := cellOf hb; have hf := frozOf hb; have hz := sizeOf hb; try simp at hz)) | (go_at_call 56; refine (c_spec_l12Unsafe _ _ _ _ fs _ _ ps _ _ pl _ _ (by first | assumption | exact Rds.below hx (by (repeat' (first | exact Below.refl _ _ | assumption | refine Below.setCell ?_ ?_ _ | refine Below.drew ?_ | refine Below.alloc ?_ ?_ _ | refine Below.trans ?_ (Below.mono (by assumption) ?_) | (simp; done) | (simp; omega) | omega)))) (by omega) (by first | assumption | exact Rds.below hy (by (repeat' (first | exact Below.refl _ _ | assumption | refine Below.setCell ?_ ?_ _ | refine Below.drew ?_ | refine Below.alloc ?_ ?_ _ | refine Below.trans ?_ (Below.mono (by assumption) ?_) | (simp; done) | (simp; omega) | omega)))) (by omega) (by first | assumption | exact Rds.below hr (by (repeat' (first | exact Below.refl _ _ | assumption | refine Below.setCell ?_ ?_ _ | refine Below.drew ?_ | refine Below.alloc ?_ ?_ _ | refine Below.trans ?_ (Below.mono (by assumption) ?_) | (simp; done) | (simp; omega) | omega)))) (by omega) (by omega) hfl hpu (by omega) (by omega) hbt).mono ?_; rintro e w' ⟨rfl, hb⟩; have hc := cellOf hb; have hf := frozOf hb; have hz := sizeOf hb; try simp at hz))
    go_ret2
    exact ⟨by first | (rw [HV.out]; done) | (rw [HV.out]; rfl), by (repeat' (first | exact Below.refl _ _ | assumption | refine Below.setCell ?_ ?_ _ | refine Below.drew ?_ | refine Below.alloc ?_ ?_ _ | refine Below.trans ?_ (Below.mono (by assumption) ?_) | (simp; done) | (simp; omega) | omega))⟩

end Go.Proofs.Ytpaclngjmdacjaa
namespace Go.Proofs.Ytpaclngjmdacjaa
set_option linter.unusedSimpArgs false
set_option linter.unusedVariables false
open Go.RowKit

set_option maxRecDepth 100000 in
set_option maxHeartbeats 4000000 in
theorem c_spec_l1Own_a (A : Option Addr) (xs : List Int) (cap : Nat) (w : World) (hr : Rds cIn 1 w A xs) (h0 : 0 < xs.length) (hn : xs.length ≤ 1000) :
    Calls Try.prog 60 #[.slice A xs.length cap] w fun e w' => ∃ A' cap', e = .returned (.slice A' xs.length cap') ∧ FreshA cIn 1 3 w.heap.size w' A' cap' xs ∧ Below w.heap.size w w' := by
  obtain ⟨i0, hI0, hI1, hI2, hI3⟩ := info_parts info_In
  obtain ⟨g, og, rfl, hbx, hcx⟩ := Rds.all hr h0
  have HX := hid hcx
  clear hr hcx
  go_enter Try.func60, Try.ntmps60
  go_wp2_with (at_builtin; refine wpList_pushes (xs := ([] : List (Int))) rfl (.tmp 3) (.tmp 4) 22 rfl 3 i0 _ 8 Try.underlying22 hI0 hI1 hI2 hI3 rfl (by decide) (fun _ => rfl) one_In 0 rfl rfl (FreshA.new (B := w.heap.size) (by first | omega | (simp; omega) | (simp at *; omega))) xs _ rfl g og _ rfl ?_ ?_ ?_ ?_ ?_; (exact fun p hp j u hu => (Below.cell (p := ⟨g, _, none⟩) (show Below w.heap.size w _ by (repeat' (first | exact Below.refl _ _ | assumption | refine Below.setCell ?_ ?_ _ | refine Below.drew ?_ | refine Below.alloc ?_ ?_ _ | refine Below.trans ?_ (Below.mono (by assumption) ?_) | (simp; done) | (simp; omega) | omega))) hbx).trans (HX.out p hp j u hu)); (unfold maxLen; omega); omega; (first | omega | (simp; done) | (simp; omega) | exact (show Below w.heap.size w _ by (repeat' (first | exact Below.refl _ _ | assumption | refine Below.setCell ?_ ?_ _ | refine Below.drew ?_ | refine Below.alloc ?_ ?_ _ | refine Below.trans ?_ (Below.mono (by assumption) ?_) | (simp; done) | (simp; omega) | omega))).size | (simp [go_sem]; done) | (simp [go_sem]; omega)); intro A3 cp3 w3 hF3 hg3 hat3; simp only [List.nil_append, Nat.zero_add] at hF3; have hb3 := below_of_grown (B := w.heap.size) hg3 (fun a ha => by cases ha; first | exact Nat.le_refl _ | omega | (simp; omega) | (simp at *; omega)) (by first | omega | (simp; done) | (simp; omega) | exact (show Below w.heap.size w _ by (repeat' (first | exact Below.refl _ _ | assumption | refine Below.setCell ?_ ?_ _ | refine Below.drew ?_ | refine Below.alloc ?_ ?_ _ | refine Below.trans ?_ (Below.mono (by assumption) ?_) | (simp; done) | (simp; omega) | omega))).size); have hs3 := hg3.size; (try simp at hs3); have hBB : Below w.heap.size w w3 := Below.trans (show Below w.heap.size w _ by (repeat' (first | exact Below.refl _ _ | assumption | refine Below.setCell ?_ ?_ _ | refine Below.drew ?_ | refine Below.alloc ?_ ?_ _ | refine Below.trans ?_ (Below.mono (by assumption) ?_) | (simp; done) | (simp; omega) | omega))) hb3)
  go_ret
  exact ⟨_, _, rfl, hF3, by (repeat' (first | exact Below.refl _ _ | assumption | refine Below.setCell ?_ ?_ _ | refine Below.drew ?_ | refine Below.alloc ?_ ?_ _ | refine Below.trans ?_ (Below.mono (by assumption) ?_) | (simp; done) | (simp; omega) | omega))⟩

set_option maxRecDepth 100000 in
set_option maxHeartbeats 4000000 in
theorem c_impl_copyInts_a (A : Option Addr) (xs : List Int) (cap : Nat) (w : World) (hr : Rds cIn 1 w A xs) (h0 : 0 < xs.length) (hn : xs.length ≤ 1000) :
    Calls Try.prog 62 #[.slice A xs.length cap] w fun e w' => ∃ A' cap', e = .returned (.slice A' xs.length cap') ∧ FreshA cIn 1 3 w.heap.size w' A' cap' xs ∧ Below w.heap.size w w' := by
  obtain ⟨i0, hI0, hI1, hI2, hI3⟩ := info_parts info_In
  obtain ⟨g, og, rfl, hbx, hcx⟩ := Rds.all hr h0
  have HX := hid hcx
  clear hr hcx
  go_enter Try.func62, Try.ntmps62
  go_wp2_with (at_builtin; refine wpList_pushes (xs := ([] : List (Int))) rfl (.tmp 3) (.tmp 4) 22 rfl 3 i0 _ 8 Try.underlying22 hI0 hI1 hI2 hI3 rfl (by decide) (fun _ => rfl) one_In 0 rfl rfl (FreshA.new (B := w.heap.size) (by first | omega | (simp; omega) | (simp at *; omega))) xs _ rfl g og _ rfl ?_ ?_ ?_ ?_ ?_; (exact fun p hp j u hu => (Below.cell (p := ⟨g, _, none⟩) (show Below w.heap.size w _ by (repeat' (first | exact Below.refl _ _ | assumption | refine Below.setCell ?_ ?_ _ | refine Below.drew ?_ | refine Below.alloc ?_ ?_ _ | refine Below.trans ?_ (Below.mono (by assumption) ?_) | (simp; done) | (simp; omega) | omega))) hbx).trans (HX.out p hp j u hu)); (unfold maxLen; omega); omega; (first | omega | (simp; done) | (simp; omega) | exact (show Below w.heap.size w _ by (repeat' (first | exact Below.refl _ _ | assumption | refine Below.setCell ?_ ?_ _ | refine Below.drew ?_ | refine Below.alloc ?_ ?_ _ | refine Below.trans ?_ (Below.mono (by assumption) ?_) | (simp; done) | (simp; omega) | omega))).size | (simp [go_sem]; done) | (simp [go_sem]; omega)); intro A3 cp3 w3 hF3 hg3 hat3; simp only [List.nil_append, Nat.zero_add] at hF3; have hb3 := below_of_grown (B := w.heap.size) hg3 (fun a ha => by cases ha; first | exact Nat.le_refl _ | omega | (simp; omega) | (simp at *; omega)) (by first | omega | (simp; done) | (simp; omega) | exact (show Below w.heap.size w _ by (repeat' (first | exact Below.refl _ _ | assumption | refine Below.setCell ?_ ?_ _ | refine Below.drew ?_ | refine Below.alloc ?_ ?_ _ | refine Below.trans ?_ (Below.mono (by assumption) ?_) | (simp; done) | (simp; omega) | omega))).size); have hs3 := hg3.size; (try simp at hs3); have hBB : Below w.heap.size w w3 := Below.trans (show Below w.heap.size w _ by (repeat' (first | exact Below.refl _ _ | assumption | refine Below.setCell ?_ ?_ _ | refine Below.drew ?_ | refine Below.alloc ?_ ?_ _ | refine Below.trans ?_ (Below.mono (by assumption) ?_) | (simp; done) | (simp; omega) | omega))) hb3)
  go_ret
  exact ⟨_, _, rfl, hF3, by (repeat' (first | exact Below.refl _ _ | assumption | refine Below.setCell ?_ ?_ _ | refine Below.drew ?_ | refine Below.alloc ?_ ?_ _ | refine Below.trans ?_ (Below.mono (by assumption) ?_) | (simp; done) | (simp; omega) | omega))⟩

end Go.Proofs.Ytpaclngjmdacjaa
namespace Go.Proofs.Ytpaclngjmdacjaa
set_option linter.unusedSimpArgs false
set_option linter.unusedVariables false
open Go.RowKit

def eqPuB (a b c a' b' c' : Int) : Bool := decide (a = a' ∧ b = b' ∧ c = c')

set_option maxHeartbeats 400000 in
theorem c_laws_toPump (a b c : Int) (w : World)  :
    Calls Try.prog 77 #[.agg #[.int .i64 (a), .int .i64 (b), .int .i64 (c)]] w fun e w' => e = .returned (.agg #[.int .i64 (a), .int .i64 (b), .int .i64 (c)]) ∧ Below w.heap.size w w' := by
  go_enter Try.func77, Try.ntmps77
  go_wp2
  all_goals
    refine bodyPost_ret (v := .agg #[.int .i64 (a), .int .i64 (b), .int .i64 (c)]) ?_ rfl ⟨rfl, ?_⟩
    · first | (simp [results, Try.results77, go_sem, ↓IntWalk.iteOmega, *]; done) | (simp [results, Try.results77, go_sem, ↓IntWalk.iteOmega, *]; omega) | (simp [results, Try.results77, go_sem, ↓IntWalk.iteOmega, *]; simp_all []; done)
    · (repeat' (first | exact Below.refl _ _ | assumption | refine Below.setCell ?_ ?_ _ | refine Below.drew ?_ | refine Below.alloc ?_ ?_ _ | refine Below.trans ?_ (Below.mono (by assumption) ?_) | (simp; done) | (simp; omega) | omega))

set_option maxHeartbeats 2000000 in
theorem c_laws_eqPump (a b c a' b' c' : Int) (w : World)  :
    Calls Try.prog 79 #[.agg #[.int .i64 (a), .int .i64 (b), .int .i64 (c)], .agg #[.int .i64 (a'), .int .i64 (b'), .int .i64 (c')]] w fun e w' => e = .returned (.bool (eqPuB a b c a' b' c')) ∧ Below w.heap.size w w' := by
  go_enter Try.func79, Try.ntmps79
  go_wp2
  all_goals go_ret
  all_goals
    refine ⟨ret_bool ?_, ?_⟩
    · first | rfl | omega | (simp [eqPuB]; done) | (simp [eqPuB]; omega) | (simp [eqPuB]; (repeat' split) <;> (first | omega | (simp; done) | (simp; omega))) | (simp_all [eqPuB]; done) | (simp_all [eqPuB]; omega)
    · (repeat' (first | exact Below.refl _ _ | assumption | refine Below.setCell ?_ ?_ _ | refine Below.drew ?_ | refine Below.alloc ?_ ?_ _ | refine Below.trans ?_ (Below.mono (by assumption) ?_) | (simp; done) | (simp; omega) | omega))

set_option maxHeartbeats 1000000 in
theorem c_laws_szPumpS (A : Option Addr) (n cap : Nat) (left : Int) (w : World) (hl : 0 ≤ left ∧ left ≤ 1048576) (hn : n ≤ 9223372036854775807) :
    Calls Try.prog 48 #[.slice A n cap, .int .i64 left] w fun e w' => e = .returned (.int .i64 (if left < n then -1 else left - n)) ∧ Below w.heap.size w w' := by
  go_enter Try.func48, Try.ntmps48
  go_wp2
  all_goals go_ret
  all_goals
    refine ⟨ret_int ?_, ?_⟩
    · first | rfl | rw [if_pos (by omega)] | rw [if_neg (by omega)]
    · exact Below.refl _ _

set_option maxHeartbeats 1000000 in
theorem c_laws_szIntS (A : Option Addr) (n cap : Nat) (left : Int) (w : World) (hl : 0 ≤ left ∧ left ≤ 1048576) (hn : n ≤ 9223372036854775807) :
    Calls Try.prog 47 #[.slice A n cap, .int .i64 left] w fun e w' => e = .returned (.int .i64 (if left < n then -1 else left - n)) ∧ Below w.heap.size w w' := by
  go_enter Try.func47, Try.ntmps47
  go_wp2
  all_goals go_ret
  all_goals
    refine ⟨ret_int ?_, ?_⟩
    · first | rfl | rw [if_pos (by omega)] | rw [if_neg (by omega)]
    · exact Below.refl _ _

end Go.Proofs.Ytpaclngjmdacjaa
namespace Go.Proofs.Ytpaclngjmdacjaa
set_option linter.unusedSimpArgs false
set_option linter.unusedVariables false
open Go.RowKit

set_option maxHeartbeats 2000000 in
theorem c_laws_markPumpS (B : Nat) (A : Option Addr) (xs : List (Int × Int × Int)) (cap : Nat) (k0 : Int) (w : World) (h : FreshA cPu 3 71 B w A cap xs) (hn : xs.length ≤ 10000000) (hk0 : 0 ≤ k0 ∧ k0 ≤ 100000000) :
    Calls Try.prog 64 #[.slice A xs.length cap, .int .i64 k0] w fun e w' => e = .returned (.int .i64 (k0 + 3 * xs.length)) ∧ FreshA cPu 3 71 B w' A cap (mkPu xs.length k0) ∧ w.grownBy w' (blkO A) := by
  rcases h with ⟨rfl, rfl, rfl⟩ | ⟨g, rfl, hB, hO⟩
  · go_enter Try.func64, Try.ntmps64
    go_wp2_with (fail)
    go_loopw [1, 5] (fun q i wr => q = .int .i64 k0 ∧ i = .int .i64 0 ∧ wr = w) (fun _ _ _ => 0)
    case atStart => exact ⟨rfl, rfl, rfl⟩
    case round =>
      obtain ⟨rfl, rfl, rfl⟩ := hrel
      go_wp2_with (fail)
      go_ret
      exact ⟨ret_int (by simp), .inl ⟨rfl, rfl, rfl⟩, World.grownBy.refl _ _⟩
  · have hlen : xs.length ≤ cap := by
      obtain ⟨_, _, _, h, _⟩ := hO
      exact h
    have hE := hO.empty
    clear hO
    generalize xs.length = n at *
    go_enter Try.func64, Try.ntmps64
    go_wp2_with (fail)
    go_loopw [1, 5] (fun q i wr => ∃ j : Nat, j ≤ n ∧ i = .int .i64 j ∧ q = .int .i64 (k0 + 3 * (j : Int)) ∧ OwnS cPu 3 71 wr g cap (mkPu j k0) ∧ w.grownBy wr (some g)) (fun _ i _ => n - (intOf i).toNat)
    case atStart => exact ⟨0, Nat.zero_le _, rfl, by simp, hE, World.grownBy.refl _ _⟩
    case round =>
      obtain ⟨j, hj, rfl, rfl, hO, hg⟩ := hrel
      clear hE
      by_cases hlt : j < n
      · have hlo := hO.lt
        obtain ⟨u0, hu0⟩ := hO.cell (j * 3) (by omega)
        obtain ⟨u1, hu1⟩ := hO.cell (j * 3 + 1) (by omega)
        obtain ⟨u2, hu2⟩ := hO.cell (j * 3 + 2) (by omega)
        have hfz : ∀ o, wr.frozen? ⟨g, o, none⟩ = false := fun o => hO.frozen o
        have HO := hid hO
        have HG := hid hg
        clear hO hg
        go_wp2_with (fail)
        go_roundw
        case rel =>
          refine ⟨j + 1, by omega, by go_num, by (congr 1; omega), ?_, ?_⟩
          · refine OwnS.pushm (fun _ => rfl) HO.out (mkPu_len _ _) (mkPu_snoc _ _) (by omega) ?_
            simp only [stores, cPu]
            simp only [Nat.add_assoc, Int.add_assoc, Nat.reduceAdd, Int.reduceAdd]
          · exact grown_set (grown_set (grown_set HG.out))
        case measure => simp [intOf]; omega
      · obtain rfl : j = n := by omega
        go_wp2_with (fail)
        go_ret
        exact ⟨rfl, .inr ⟨g, rfl, hB, by simpa [mkPu_len] using hO⟩, hg⟩

set_option maxHeartbeats 2000000 in
theorem c_laws_markIntS (B : Nat) (A : Option Addr) (xs : List (Int)) (cap : Nat) (k0 : Int) (w : World) (h : FreshA cIn 1 3 B w A cap xs) (hn : xs.length ≤ 10000000) (hk0 : 0 ≤ k0 ∧ k0 ≤ 100000000) :
    Calls Try.prog 34 #[.slice A xs.length cap, .int .i64 k0] w fun e w' => e = .returned (.int .i64 (k0 + 1 * xs.length)) ∧ FreshA cIn 1 3 B w' A cap (mkIn xs.length k0) ∧ w.grownBy w' (blkO A) := by
  rcases h with ⟨rfl, rfl, rfl⟩ | ⟨g, rfl, hB, hO⟩
  · go_enter Try.func34, Try.ntmps34
    go_wp2_with (fail)
    go_loopw [1, 5] (fun q i wr => q = .int .i64 k0 ∧ i = .int .i64 0 ∧ wr = w) (fun _ _ _ => 0)
    case atStart => exact ⟨rfl, rfl, rfl⟩
    case round =>
      obtain ⟨rfl, rfl, rfl⟩ := hrel
      go_wp2_with (fail)
      go_ret
      exact ⟨ret_int (by simp), .inl ⟨rfl, rfl, rfl⟩, World.grownBy.refl _ _⟩
  · have hlen : xs.length ≤ cap := by
      obtain ⟨_, _, _, h, _⟩ := hO
      exact h
    have hE := hO.empty
    clear hO
    generalize xs.length = n at *
    go_enter Try.func34, Try.ntmps34
    go_wp2_with (fail)
    go_loopw [1, 5] (fun q i wr => ∃ j : Nat, j ≤ n ∧ i = .int .i64 j ∧ q = .int .i64 (k0 + 1 * (j : Int)) ∧ OwnS cIn 1 3 wr g cap (mkIn j k0) ∧ w.grownBy wr (some g)) (fun _ i _ => n - (intOf i).toNat)
    case atStart => exact ⟨0, Nat.zero_le _, rfl, by simp, hE, World.grownBy.refl _ _⟩
    case round =>
      obtain ⟨j, hj, rfl, rfl, hO, hg⟩ := hrel
      clear hE
      by_cases hlt : j < n
      · have hlo := hO.lt
        obtain ⟨u0, hu0⟩ := hO.cell (j) (by omega)
        have hfz : ∀ o, wr.frozen? ⟨g, o, none⟩ = false := fun o => hO.frozen o
        have HO := hid hO
        have HG := hid hg
        clear hO hg
        go_wp2_with (fail)
        go_roundw
        case rel =>
          refine ⟨j + 1, by omega, by go_num, by (congr 1; omega), ?_, ?_⟩
          · refine OwnS.pushm (fun _ => rfl) HO.out (mkIn_len _ _) (mkIn_snoc _ _) (by omega) ?_
            simp only [stores, cIn]
            (try simp only [Nat.mul_one])
            (try (congr 3 <;> omega))
          · exact grown_set HG.out
        case measure => simp [intOf]; omega
      · obtain rfl : j = n := by omega
        go_wp2_with (fail)
        go_ret
        exact ⟨rfl, .inr ⟨g, rfl, hB, by simpa [mkIn_len] using hO⟩, hg⟩

set_option maxHeartbeats 2000000 in
theorem c_laws_heldIntS (A : Option Addr) (n cap : Nat) (k0 : Int) (w : World) (h : Rds cIn 1 w A (mkIn n k0)) (hn : n ≤ 10000000) (hk0 : 0 ≤ k0 ∧ k0 ≤ 100000000) :
    Calls Try.prog 35 #[.slice A n cap, .int .i64 k0] w fun e w' => e = .returned (.int .i64 (k0 + 1 * n)) ∧ Below w.heap.size w w' := by
  go_enter Try.func35, Try.ntmps35
  go_wp2_with (fail)
  go_loopw [1, 5] (fun q i wr => ∃ j : Nat, j ≤ n ∧ i = .int .i64 j ∧ q = .int .i64 (k0 + 1 * (j : Int)) ∧ Below w.heap.size w wr) (fun _ i _ => n - (intOf i).toNat)
  case atStart => exact ⟨0, Nat.zero_le _, rfl, by simp, Below.refl _ _⟩
  case round =>
    obtain ⟨j, hj, rfl, rfl, hbr⟩ := hrel
    by_cases hlt : j < n
    · have hlm : j < (mkIn n k0).length := by rw [mkIn_len]; exact hlt
      obtain ⟨bx, ox, rfl, hbx, hcx⟩ := h j _ (List.getElem?_eq_getElem hlm)
      rw [mkIn_at n k0 j hlt hlm] at hcx
      have hx0 := hcx 0 _ rfl
      simp only [Nat.add_zero, Nat.mul_one] at hx0
      clear hcx h
      have hc := cellOf hbr
      go_wp2_with (fail)
      go_roundw
      case rel => exact ⟨j + 1, by omega, by go_num, by (congr 1; omega), hbr⟩
      case measure => simp [intOf]; omega
    · obtain rfl : j = n := by omega
      go_wp2_with (fail)
      go_ret
      exact ⟨rfl, hbr⟩

end Go.Proofs.Ytpaclngjmdacjaa
namespace Go.Proofs.Ytpaclngjmdacjaa
set_option linter.unusedSimpArgs false
set_option linter.unusedVariables false
open Go.RowKit

theorem FreshA.apart {α β : Type} {cf : α → List Value} {cg : β → List Value} {sz sz' : Nat} {T T' : TypeId} {B B' : Nat} {w : World} {A A' : Option Addr} {cap cap' : Nat} {xs : List α} {ys : List β} (h : FreshA cf sz T B w A cap xs) (h' : FreshA cg sz' T' B' w A' cap' ys) (hT : T ≠ T') : ∀ a, A = some a → some a.block ≠ blkO A' := by
  intro a ha e
  rcases h with ⟨rfl, _, _⟩ | ⟨g, rfl, _, h⟩
  · cases ha
  cases ha
  rcases h' with ⟨rfl, _, _⟩ | ⟨k, rfl, _, h'⟩
  · cases e
  simp only [blkO, Option.map_some, Option.some.injEq] at e
  subst e
  obtain ⟨_, e1, _⟩ := h
  obtain ⟨_, e2, _⟩ := h'
  rw [e1] at e2
  simp only [Option.some.injEq, Obj.cells.injEq] at e2
  exact hT e2.2.1
set_option maxHeartbeats 2000000 in
theorem c_laws_markPumpTask (l u v : Int) (B : Nat) (A : Option Addr) (fs : List Int) (capf : Nat) (B2 : Nat) (A2 : Option Addr) (ps : List (Int × Int × Int)) (capq : Nat) (k0 : Int) (w : World) (h1 : FreshA cIn 1 3 B w A capf fs) (h2 : FreshA cPu 3 71 B2 w A2 capq ps) (hn : fs.length ≤ 1048576) (hm : ps.length ≤ 1048576) (hk0 : 0 ≤ k0 ∧ k0 ≤ 10000000) :
    Calls Try.prog 30 #[.agg #[.int .i64 l, .int .i64 u, .int .i64 v, .slice A fs.length capf, .slice A2 ps.length capq], .int .i64 k0] w fun e w' => ∃ w1, e = .returned (.int .i64 (k0 + fs.length + 3 * ps.length)) ∧ FreshA cIn 1 3 B w1 A capf (mkIn fs.length k0) ∧ w.grownBy w1 (blkO A) ∧ FreshA cPu 3 71 B2 w' A2 capq (mkPu ps.length (k0 + fs.length)) ∧ w1.grownBy w' (blkO A2) := by
  have hap := FreshA.apart h2 h1 (by decide)
  have hlo := h1.lo
  have hhi := h1.hi
  have hb0 := (Below.refl w.heap.size w).alloc (Nat.le_refl _) (.cells #[.int .i64 l, .int .i64 u, .int .i64 v, .slice A fs.length capf, .slice A2 ps.length capq] 31)
  have H1 := hid (h1.below hb0)
  have H2 := hid (h2.below hb0)
  clear h1 h2 hb0
  go_enter Try.func30, Try.ntmps30
  go_wp2_with (first | (go_at_call 34; refine (c_laws_markIntS _ _ _ _ _ _ H1.out (by omega) (by omega)).mono ?_; rintro e W1 ⟨rfl, hF1, hg1⟩; have hF2 := FreshA.grown H2.out hg1 hap; have hc1 := cellGrown hg1 hlo hhi; have hz1 := hg1.size; (try simp at hz1)) | (go_at_call 64; refine (c_laws_markPumpS _ _ _ _ _ _ hF2 (by omega) (by omega)).mono ?_; rintro e W2 ⟨rfl, hF3, hg3⟩))
  go_ret
  exact ⟨W1, rfl, hF1, (World.grownBy_alloc _ _ _).trans hg1, hF3, hg3⟩

end Go.Proofs.Ytpaclngjmdacjaa
namespace Go.Proofs.Ytpaclngjmdacjaa
set_option linter.unusedSimpArgs false
set_option linter.unusedVariables false
open Go.RowKit

set_option maxHeartbeats 2000000 in
theorem c_laws_heldPumpS (A : Option Addr) (n cap : Nat) (k0 : Int) (w : World) (h : Rds cPu 3 w A (mkPu n k0)) (hn : n ≤ 10000000) (hk0 : 0 ≤ k0 ∧ k0 ≤ 100000000) :
    Calls Try.prog 65 #[.slice A n cap, .int .i64 k0] w fun e w' => e = .returned (.int .i64 (k0 + 3 * n)) ∧ Below w.heap.size w w' := by
  go_enter Try.func65, Try.ntmps65
  go_wp2_with (fail)
  go_loopw [1, 5] (fun q i wr => ∃ j : Nat, j ≤ n ∧ i = .int .i64 j ∧ q = .int .i64 (k0 + 3 * (j : Int)) ∧ Below w.heap.size w wr) (fun _ i _ => n - (intOf i).toNat)
  case atStart => exact ⟨0, Nat.zero_le _, rfl, by simp, Below.refl _ _⟩
  case round =>
    obtain ⟨j, hj, rfl, rfl, hbr⟩ := hrel
    by_cases hlt : j < n
    · have hlm : j < (mkPu n k0).length := by rw [mkPu_len]; exact hlt
      obtain ⟨bx, ox, rfl, hbx, hcx⟩ := h j _ (List.getElem?_eq_getElem hlm)
      rw [mkPu_at n k0 j hlt hlm] at hcx
      have hx0 := hcx 0 _ rfl
      have hx1 := hcx 1 _ rfl
      have hx2 := hcx 2 _ rfl
      simp only [Nat.add_zero] at hx0
      clear hcx h
      have hc := cellOf hbr
      go_wp2_with (fail)
      go_roundw
      case rel => exact ⟨j + 1, by omega, by go_num, by (congr 1; omega), hbr⟩
      case measure => simp [intOf]; omega
    · obtain rfl : j = n := by omega
      go_wp2_with (fail)
      go_ret
      exact ⟨rfl, hbr⟩

set_option maxHeartbeats 2000000 in
theorem c_laws_heldPumpTask (l u v : Int) (A : Option Addr) (n capf : Nat) (A2 : Option Addr) (m capq : Nat) (k0 : Int) (w : World) (h1 : Rds cIn 1 w A (mkIn n k0)) (h2 : Rds cPu 3 w A2 (mkPu m (k0 + n))) (hn : n ≤ 1048576) (hm : m ≤ 1048576) (hk0 : 0 ≤ k0 ∧ k0 ≤ 10000000) :
    Calls Try.prog 31 #[.agg #[.int .i64 l, .int .i64 u, .int .i64 v, .slice A n capf, .slice A2 m capq], .int .i64 k0] w fun e w' => e = .returned (.int .i64 (k0 + n + 3 * m)) ∧ Below w.heap.size w w' := by
  go_enter Try.func31, Try.ntmps31
  go_wp2_with (fail)
  refine (c_laws_heldIntS _ _ _ _ _ (Rds.below h1 (by (repeat' (first | exact Below.refl _ _ | assumption | refine Below.setCell ?_ ?_ _ | refine Below.drew ?_ | refine Below.alloc ?_ ?_ _ | refine Below.trans ?_ (Below.mono (by assumption) ?_) | (simp; done) | (simp; omega) | omega)))) (by omega) (by omega)).mono ?_
  rintro e W1 ⟨rfl, hb1⟩
  have hc1 := cellOf hb1; have hf1 := frozOf hb1; have hz1 := sizeOf hb1; (try simp at hz1)
  have hk1 : k0 + 1 * (n : Int) = k0 + n := by omega
  simp only [hk1]
  go_wp2_with (fail)
  refine (c_laws_heldPumpS _ _ _ _ _ (Rds.below h2 (by (repeat' (first | exact Below.refl _ _ | assumption | refine Below.setCell ?_ ?_ _ | refine Below.drew ?_ | refine Below.alloc ?_ ?_ _ | refine Below.trans ?_ (Below.mono (by assumption) ?_) | (simp; done) | (simp; omega) | omega)))) (by omega) (by omega)).mono ?_
  rintro e W2 ⟨rfl, hb2⟩
  have hc2 := cellOf hb2; have hf2 := frozOf hb2; have hz2 := sizeOf hb2; (try simp at hz2)
  go_wp2_with (fail)
  go_ret
  exact ⟨rfl, by (repeat' (first | exact Below.refl _ _ | assumption | refine Below.setCell ?_ ?_ _ | refine Below.drew ?_ | refine Below.alloc ?_ ?_ _ | refine Below.trans ?_ (Below.mono (by assumption) ?_) | (simp; done) | (simp; omega) | omega))⟩

theorem woV_len (l u v : Int) (fs : List Int) (ps : List (Int × Int × Int)) (i : Int) : (woV l u v fs ps i).1.2.2.2.1.length ≤ fs.length ∧ (woV l u v fs ps i).1.2.2.2.2.length ≤ ps.length := by
  unfold woV
  split
  · simp; omega
  · simp

end Go.Proofs.Ytpaclngjmdacjaa
