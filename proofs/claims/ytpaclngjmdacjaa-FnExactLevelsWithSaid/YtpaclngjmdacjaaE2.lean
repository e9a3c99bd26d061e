import Derived.Test.YtpaclngjmdacjaaE1
namespace Go.Proofs.Ytpaclngjmdacjaa
set_option linter.unusedSimpArgs false
set_option linter.unusedVariables false
open Go.RowKit

def noBit (n : Nat) (x : Int) : Bool := !bitsOk n x
theorem bit_any (n : Nat) (pl : List Int) : pl.all (bitsOk n) = !(pl.any (noBit n)) := by
  rw [List.not_any_eq_all_not]
  congr 1
  funext x
  simp [noBit]

set_option maxHeartbeats 2000000 in
theorem c_impl_isPumpPlan_1 (x : Int) (B : Option Addr) (n capq bp : Nat) (w : World) (hq4 : w.cell? ⟨bp, 4, none⟩ = some (.slice B n capq)) (hlt : bp < w.heap.size) (hn : n ≤ 2) :
    Calls Try.prog 78 #[.int .i64 x, .pointer (some ⟨bp, 0, none⟩)] w fun e w' => e = .returned (.bool (!bitsOk n x)) ∧ Below w.heap.size w w' := by
  obtain rfl | rfl | rfl : n = 0 ∨ n = 1 ∨ n = 2 := by omega
  · go_enter Try.func78, Try.ntmps78
    go_wp2_with (first | (go_at_call 61; refine (c_impl_inside _ _ _ _ ).mono ?_; rintro e w' ⟨rfl, hb⟩; have hc := cellOf hb; have hf := frozOf hb; have hz := sizeOf hb; try simp at hz))
    go_ret
    exact ⟨ret_bool (by simp [bitsOk, topB]), by (repeat' (first | exact Below.refl _ _ | assumption | refine Below.setCell ?_ ?_ _ | refine Below.drew ?_ | refine Below.alloc ?_ ?_ _ | refine Below.trans ?_ (Below.mono (by assumption) ?_) | (simp; done) | (simp; omega) | omega))⟩
  · go_enter Try.func78, Try.ntmps78
    go_wp2_with (first | (go_at_call 61; refine (c_impl_inside _ _ _ _ ).mono ?_; rintro e w' ⟨rfl, hb⟩; have hc := cellOf hb; have hf := frozOf hb; have hz := sizeOf hb; try simp at hz))
    go_ret
    exact ⟨ret_bool (by simp [bitsOk, topB]), by (repeat' (first | exact Below.refl _ _ | assumption | refine Below.setCell ?_ ?_ _ | refine Below.drew ?_ | refine Below.alloc ?_ ?_ _ | refine Below.trans ?_ (Below.mono (by assumption) ?_) | (simp; done) | (simp; omega) | omega))⟩
  · go_enter Try.func78, Try.ntmps78
    go_wp2_with (first | (go_at_call 61; refine (c_impl_inside _ _ _ _ ).mono ?_; rintro e w' ⟨rfl, hb⟩; have hc := cellOf hb; have hf := frozOf hb; have hz := sizeOf hb; try simp at hz))
    go_ret
    exact ⟨ret_bool (by simp [bitsOk, topB]), by (repeat' (first | exact Below.refl _ _ | assumption | refine Below.setCell ?_ ?_ _ | refine Below.drew ?_ | refine Below.alloc ?_ ?_ _ | refine Below.trans ?_ (Below.mono (by assumption) ?_) | (simp; done) | (simp; omega) | omega))⟩

set_option maxHeartbeats 2000000 in
theorem c_idx_bit (A : Option Addr) (xs : List (Int)) (cap : Nat) (B : Option Addr) (n capq bp : Nat) (w : World) (h0 : Rds cIn 1 w A xs) (hn : xs.length ≤ 9223372036854775807) (hq4 : w.cell? ⟨bp, 4, none⟩ = some (.slice B n capq)) (hlbp : bp < w.heap.size) (hn2 : n ≤ 2) :
    Calls Try.prog 80 #[.slice A xs.length cap, .func (.func 78) #[] #[.pointer (some ⟨bp, 0, none⟩)]] w fun e w' => e = .returned (.int .i64 (idxF (noBit n) xs)) ∧ Below w.heap.size w w' := by
  go_enter Try.func80, Try.ntmps80
  go_wp2_with (fail)
  go_loopw [5, 8] (fun _ i wr => ∃ k : Nat, k ≤ xs.length ∧ i = .int .i64 k ∧ (xs.take k).any (noBit n) = false ∧ Below w.heap.size w wr) (fun _ i _ => xs.length - (intOf i).toNat)
  case atStart => exact ⟨0, Nat.zero_le _, rfl, rfl, Below.refl _ _⟩
  case round =>
    obtain ⟨k, hk, rfl, hl, hbr⟩ := hrel
    have HT := hid hl
    clear hl
    by_cases hlt : k < xs.length
    · obtain ⟨bx, ox, rfl, hbx, hcx⟩ := h0 k xs[k] (List.getElem?_eq_getElem hlt)
      have hx0 := hcx 0 _ rfl
      simp only [Nat.add_zero, Nat.mul_one] at hx0
      clear hcx h0
      skip
      have HS := hid (any_snoc (noBit n) xs k hlt)
      have HH := hid (fun hp => idxF_hit (p := (noBit n)) (xs := xs) HT.out hlt hp)
      obtain ⟨x, hxk⟩ : ∃ x, x = xs[k] := ⟨_, rfl⟩
      simp only [← hxk] at hx0 HS HH
      clear hxk
      have hc := cellOf hbr
      have hf := frozOf hbr
      have hz := sizeOf hbr
      have mq4 : wr.cell? ⟨bp, 4, none⟩ = some (.slice B n capq) := by rw [hc, if_pos hlbp]; exact hq4
      have mlbp : bp < wr.heap.size := by omega
      by_cases hp : (noBit n) x = true
      · have HP := hid hp
        have hp' := hp
        simp only [noBit, Bool.not_eq_true', Bool.not_eq_false'] at hp'
        clear hp
        go_wp2_with (go_at_call 78; refine (c_impl_isPumpPlan_1 _ B n capq bp _ mq4 mlbp hn2).mono ?_; rintro e w2 ⟨rfl, hb2⟩)
        go_ret
        exact ⟨ret_int (HH.out HP.out).symm, by (repeat' (first | exact Below.refl _ _ | assumption | refine Below.setCell ?_ ?_ _ | refine Below.drew ?_ | refine Below.alloc ?_ ?_ _ | refine Below.trans ?_ (Below.mono (by assumption) ?_) | (simp; done) | (simp; omega) | omega))⟩
      · have HP : Hid ((noBit n) x = false) := by show _ = _; simpa using hp
        have hp' := HP.out
        simp only [noBit, Bool.not_eq_true', Bool.not_eq_false'] at hp'
        clear hp
        go_wp2_with (go_at_call 78; refine (c_impl_isPumpPlan_1 _ B n capq bp _ mq4 mlbp hn2).mono ?_; rintro e w2 ⟨rfl, hb2⟩)
        go_roundw
        case rel => exact ⟨k + 1, by omega, by go_num, by rw [HS.out, HT.out, HP.out]; rfl, by (repeat' (first | exact Below.refl _ _ | assumption | refine Below.setCell ?_ ?_ _ | refine Below.drew ?_ | refine Below.alloc ?_ ?_ _ | refine Below.trans ?_ (Below.mono (by assumption) ?_) | (simp; done) | (simp; omega) | omega))⟩
        case measure => simp [intOf]; omega
    · obtain rfl : k = xs.length := by omega
      have HN := hid (idxF_none (p := (noBit n)) (xs := xs) (by have := HT.out; rwa [List.take_length] at this))
      go_wp2_with (fail)
      go_ret
      exact ⟨ret_int HN.out.symm, by (repeat' (first | exact Below.refl _ _ | assumption | refine Below.setCell ?_ ?_ _ | refine Below.drew ?_ | refine Below.alloc ?_ ?_ _ | refine Below.trans ?_ (Below.mono (by assumption) ?_) | (simp; done) | (simp; omega) | omega))⟩

set_option maxHeartbeats 2000000 in
theorem c_has_bit (A : Option Addr) (xs : List (Int)) (cap : Nat) (B : Option Addr) (n capq bp : Nat) (w : World) (h0 : Rds cIn 1 w A xs) (hn : xs.length ≤ 9223372036854775807) (hq4 : w.cell? ⟨bp, 4, none⟩ = some (.slice B n capq)) (hlbp : bp < w.heap.size) (hn2 : n ≤ 2) :
    Calls Try.prog 71 #[.slice A xs.length cap, .func (.func 78) #[] #[.pointer (some ⟨bp, 0, none⟩)]] w fun e w' => e = .returned (.bool (xs.any (noBit n))) ∧ Below w.heap.size w w' := by
  go_enter Try.func71, Try.ntmps71
  go_wp2_with (go_at_call 80; refine (c_idx_bit _ _ _ _ _ _ _ _ (by assumption) (by assumption) (by assumption) (by assumption) (by assumption)).mono ?_; rintro e w' ⟨rfl, hb⟩)
  all_goals go_ret
  all_goals exact ⟨ret_bool (by rw [← idxF_any]; simp), by (repeat' (first | exact Below.refl _ _ | assumption | refine Below.setCell ?_ ?_ _ | refine Below.drew ?_ | refine Below.alloc ?_ ?_ _ | refine Below.trans ?_ (Below.mono (by assumption) ?_) | (simp; done) | (simp; omega) | omega))⟩

set_option maxRecDepth 100000 in
set_option maxHeartbeats 4000000 in
theorem c_impl_isPumpPlan (l h v : Int) (A : Option Addr) (fs : List Int) (capf : Nat) (B : Option Addr) (ps : List (Int × Int × Int)) (capq : Nat) (C : Option Addr) (pl : List Int) (capp : Nat) (w : World) (hx : Rds cIn 1 w A fs) (hn : fs.length ≤ 9223372036854775807) (hy : Rds cPu 3 w B ps) (hm : ps.length ≤ 9223372036854775807) (hr : Rds cIn 1 w C pl) (hnr : pl.length ≤ 9223372036854775807) :
    Calls Try.prog 52 #[.agg #[.int .i64 l, .int .i64 h, .int .i64 v, .slice A fs.length capf, .slice B ps.length capq], .slice C pl.length capp] w fun e w' => e = .returned (.bool (planB l h v fs ps pl)) ∧ Below w.heap.size w w' := by
  by_cases hs0 : taskB l h v fs ps = true
  rotate_left
  · have hn0 : taskB l h v fs ps = false := Bool.eq_false_iff.2 hs0
    have HV := hid (show planB l h v fs ps pl = false by simp [planB, hn0])
    clear hs0
    go_enter Try.func52, Try.ntmps52
    go_wp2_with (first | (go_at_call 42; refine (c_impl_IsPumpTask _ _ _ _ _ _ _ _ _ _ (by first | assumption | exact Rds.below hx (by (repeat' (first | exact Below.refl _ _ | assumption | refine Below.setCell ?_ ?_ _ | refine Below.drew ?_ | refine Below.alloc ?_ ?_ _ | refine Below.trans ?_ (Below.mono (by assumption) ?_) | (simp; done) | (simp; omega) | omega)))) (by omega) (by first | assumption | exact Rds.below hy (by (repeat' (first | exact Below.refl _ _ | assumption | refine Below.setCell ?_ ?_ _ | refine Below.drew ?_ | refine Below.alloc ?_ ?_ _ | refine Below.trans ?_ (Below.mono (by assumption) ?_) | (simp; done) | (simp; omega) | omega)))) (by omega)).mono ?_; rintro e w' ⟨rfl, hb⟩; have hc := cellOf hb; have hf := frozOf hb; have hz := sizeOf hb; try simp at hz))
    all_goals go_ret
    all_goals exact ⟨by first | (rw [HV.out]; done) | (rw [HV.out]; rfl), by (repeat' (first | exact Below.refl _ _ | assumption | refine Below.setCell ?_ ?_ _ | refine Below.drew ?_ | refine Below.alloc ?_ ?_ _ | refine Below.trans ?_ (Below.mono (by assumption) ?_) | (simp; done) | (simp; omega) | omega))⟩
  by_cases hs1 : pl.length = fs.length
  rotate_left
  · have HV := hid (show planB l h v fs ps pl = false by simp [planB, hs1])
    go_enter Try.func52, Try.ntmps52
    go_wp2_with (first | (go_at_call 42; refine (c_impl_IsPumpTask _ _ _ _ _ _ _ _ _ _ (by first | assumption | exact Rds.below hx (by (repeat' (first | exact Below.refl _ _ | assumption | refine Below.setCell ?_ ?_ _ | refine Below.drew ?_ | refine Below.alloc ?_ ?_ _ | refine Below.trans ?_ (Below.mono (by assumption) ?_) | (simp; done) | (simp; omega) | omega)))) (by omega) (by first | assumption | exact Rds.below hy (by (repeat' (first | exact Below.refl _ _ | assumption | refine Below.setCell ?_ ?_ _ | refine Below.drew ?_ | refine Below.alloc ?_ ?_ _ | refine Below.trans ?_ (Below.mono (by assumption) ?_) | (simp; done) | (simp; omega) | omega)))) (by omega)).mono ?_; rintro e w' ⟨rfl, hb⟩; have hc := cellOf hb; have hf := frozOf hb; have hz := sizeOf hb; try simp at hz))
    all_goals go_ret
    all_goals exact ⟨by first | (rw [HV.out]; done) | (rw [HV.out]; rfl), by (repeat' (first | exact Below.refl _ _ | assumption | refine Below.setCell ?_ ?_ _ | refine Below.drew ?_ | refine Below.alloc ?_ ?_ _ | refine Below.trans ?_ (Below.mono (by assumption) ?_) | (simp; done) | (simp; omega) | omega))⟩
  have HSL := hid hs1
  have hn2 := headB_bd (taskB_head hs0)
  have HV := hid (show planB l h v fs ps pl = !(pl.any (noBit ps.length)) by rw [planB, hs0, bit_any]; simp [hs1])
  go_enter Try.func52, Try.ntmps52
  go_wp2_with (first | (first | (go_at_call 42; refine (c_impl_IsPumpTask _ _ _ _ _ _ _ _ _ _ (by first | assumption | exact Rds.below hx (by (repeat' (first | exact Below.refl _ _ | assumption | refine Below.setCell ?_ ?_ _ | refine Below.drew ?_ | refine Below.alloc ?_ ?_ _ | refine Below.trans ?_ (Below.mono (by assumption) ?_) | (simp; done) | (simp; omega) | omega)))) (by omega) (by first | assumption | exact Rds.below hy (by (repeat' (first | exact Below.refl _ _ | assumption | refine Below.setCell ?_ ?_ _ | refine Below.drew ?_ | refine Below.alloc ?_ ?_ _ | refine Below.trans ?_ (Below.mono (by assumption) ?_) | (simp; done) | (simp; omega) | omega)))) (by omega)).mono ?_; rintro e w' ⟨rfl, hb⟩; have hc := cellOf hb; have hf := frozOf hb; have hz := sizeOf hb; try simp at hz)) | (go_at_call 71; (try rw [← HSL.out]); refine (c_has_bit _ _ _ B ps.length capq w.heap.size _ (by first | assumption | exact Rds.below hr (by (repeat' (first | exact Below.refl _ _ | assumption | refine Below.setCell ?_ ?_ _ | refine Below.drew ?_ | refine Below.alloc ?_ ?_ _ | refine Below.trans ?_ (Below.mono (by assumption) ?_) | (simp; done) | (simp; omega) | omega)))) (by omega) (by first | assumption | (simp [go_sem, ↓IntWalk.iteOmega, *]; done)) (by first | omega | (simp; done) | (simp; omega)) (by omega)).mono ?_; rintro e w' ⟨rfl, hb⟩; have hc := cellOf hb; have hf := frozOf hb; have hz := sizeOf hb; try simp at hz))
  all_goals go_ret
  all_goals exact ⟨ret_bool (by rw [HV.out]), by (repeat' (first | exact Below.refl _ _ | assumption | refine Below.setCell ?_ ?_ _ | refine Below.drew ?_ | refine Below.alloc ?_ ?_ _ | refine Below.trans ?_ (Below.mono (by assumption) ?_) | (simp; done) | (simp; omega) | omega))⟩

end Go.Proofs.Ytpaclngjmdacjaa
