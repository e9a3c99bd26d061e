import Derived.Test.YteciijnpfapmhaaBrDefs
import Derived.Test.YteciijnpfapmhaaC1
namespace Go.Proofs.Yteciijnpfapmhaa
set_option linter.unusedSimpArgs false
set_option linter.unusedVariables false
open Go.RowKit

set_option maxHeartbeats 2000000 in
theorem c_impl_mayOpen_1 (a b t d : Int) (bp bq : Nat) (w : World) (hbp0 : w.cell? ⟨bp, 0, none⟩ = some (.int .i64 (t))) (hlbp : bp < w.heap.size) (hbq0 : w.cell? ⟨bq, 0, none⟩ = some (.int .i64 (t + d - 1))) (hlbq : bq < w.heap.size) (hab : a ≤ b) (hd : 1 ≤ d) :
    Calls Try.prog 85 #[.agg #[.int .i64 (a), .int .i64 (b)], .pointer (some ⟨bp, 0, none⟩), .pointer (some ⟨bq, 0, none⟩)] w fun e w' => e = .returned (.bool (decide (t ≤ b ∧ a ≤ t + d - 1))) ∧ Below w.heap.size w w' := by
  go_enter Try.func85, Try.ntmps85
  go_wp2
  all_goals go_ret
  all_goals
    refine ⟨ret_bool ?_, ?_⟩
    · first | rfl | omega | (simp []; done) | (simp []; omega) | (simp []; (repeat' split) <;> (first | omega | (simp; done) | (simp; omega))) | (simp_all []; done) | (simp_all []; omega)
    · (repeat' (first | exact Below.refl _ _ | assumption | refine Below.setCell ?_ ?_ _ | refine Below.drew ?_ | refine Below.alloc ?_ ?_ _ | refine Below.trans ?_ (Below.mono (by assumption) ?_) | (simp; done) | (simp; omega) | omega))

set_option maxHeartbeats 2000000 in
theorem c_idx_may (A : Option Addr) (xs : List (Int × Int)) (cap : Nat) (t d : Int) (bp bq : Nat) (w : World) (h0 : Rds cIv 2 w A xs) (hn : xs.length ≤ 9223372036854775807) (hbp0 : w.cell? ⟨bp, 0, none⟩ = some (.int .i64 (t))) (hlbp : bp < w.heap.size) (hbq0 : w.cell? ⟨bq, 0, none⟩ = some (.int .i64 (t + d - 1))) (hlbq : bq < w.heap.size) (hok : ∀ k (hk : k < xs.length), ivP xs[k]) (hd : 1 ≤ d ∧ d ≤ 30) (ht : 0 ≤ t ∧ t ≤ 99999) :
    Calls Try.prog 93 #[.slice A xs.length cap, .func (.func 85) #[] #[.pointer (some ⟨bp, 0, none⟩), .pointer (some ⟨bq, 0, none⟩)]] w fun e w' => e = .returned (.int .i64 (idxF (hitI t d) xs)) ∧ Below w.heap.size w w' := by
  go_enter Try.func93, Try.ntmps93
  go_wp2_with (fail)
  go_loopw [5, 8] (fun _ i wr => ∃ k : Nat, k ≤ xs.length ∧ i = .int .i64 k ∧ (xs.take k).any (hitI t d) = false ∧ Below w.heap.size w wr) (fun _ i _ => xs.length - (intOf i).toNat)
  case atStart => exact ⟨0, Nat.zero_le _, rfl, rfl, Below.refl _ _⟩
  case round =>
    obtain ⟨k, hk, rfl, hl, hbr⟩ := hrel
    have HT := hid hl
    clear hl
    by_cases hlt : k < xs.length
    · obtain ⟨bx, ox, rfl, hbx, hcx⟩ := h0 k xs[k] (List.getElem?_eq_getElem hlt)
      have hx0 := hcx 0 _ rfl
      have hx1 := hcx 1 _ rfl
      simp only [Nat.add_zero] at hx0
      clear hcx h0
      have hbx := hok k hlt
      clear hok
      have HS := hid (any_snoc (hitI t d) xs k hlt)
      have HH := hid (fun hp => idxF_hit (p := (hitI t d)) (xs := xs) HT.out hlt hp)
      obtain ⟨x, hxk⟩ : ∃ x, x = xs[k] := ⟨_, rfl⟩
      simp only [← hxk] at hx0 hx1 HS HH hbx
      clear hxk
      have hc := cellOf hbr
      have hf := frozOf hbr
      have hz := sizeOf hbr
      have mbp0 : wr.cell? ⟨bp, 0, none⟩ = some (.int .i64 (t)) := by rw [hc, if_pos hlbp]; exact hbp0
      have mlbp : bp < wr.heap.size := by omega
      have mbq0 : wr.cell? ⟨bq, 0, none⟩ = some (.int .i64 (t + d - 1)) := by rw [hc, if_pos hlbq]; exact hbq0
      have mlbq : bq < wr.heap.size := by omega
      unfold ivP at hbx
      by_cases hp : (hitI t d) x = true
      · have HP := hid hp
        have hp' := hp
        simp only [hitI] at hp'
        clear hp
        go_wp2_with (go_at_call 85; refine (c_impl_mayOpen_1 _ _ t d bp bq _ mbp0 mlbp mbq0 mlbq (by omega) (by omega)).mono ?_; rintro e w2 ⟨rfl, hb2⟩)
        go_ret
        exact ⟨ret_int (HH.out HP.out).symm, by (repeat' (first | exact Below.refl _ _ | assumption | refine Below.setCell ?_ ?_ _ | refine Below.drew ?_ | refine Below.alloc ?_ ?_ _ | refine Below.trans ?_ (Below.mono (by assumption) ?_) | (simp; done) | (simp; omega) | omega))⟩
      · have HP : Hid ((hitI t d) x = false) := by show _ = _; simpa using hp
        have hp' := HP.out
        simp only [hitI] at hp'
        clear hp
        go_wp2_with (go_at_call 85; refine (c_impl_mayOpen_1 _ _ t d bp bq _ mbp0 mlbp mbq0 mlbq (by omega) (by omega)).mono ?_; rintro e w2 ⟨rfl, hb2⟩)
        go_roundw
        case rel => exact ⟨k + 1, by omega, by go_num, by rw [HS.out, HT.out, HP.out]; rfl, by (repeat' (first | exact Below.refl _ _ | assumption | refine Below.setCell ?_ ?_ _ | refine Below.drew ?_ | refine Below.alloc ?_ ?_ _ | refine Below.trans ?_ (Below.mono (by assumption) ?_) | (simp; done) | (simp; omega) | omega))⟩
        case measure => simp [intOf]; omega
    · obtain rfl : k = xs.length := by omega
      have HN := hid (idxF_none (p := (hitI t d)) (xs := xs) (by have := HT.out; rwa [List.take_length] at this))
      go_wp2_with (fail)
      go_ret
      exact ⟨ret_int HN.out.symm, by (repeat' (first | exact Below.refl _ _ | assumption | refine Below.setCell ?_ ?_ _ | refine Below.drew ?_ | refine Below.alloc ?_ ?_ _ | refine Below.trans ?_ (Below.mono (by assumption) ?_) | (simp; done) | (simp; omega) | omega))⟩

set_option maxHeartbeats 2000000 in
theorem c_has_may (A : Option Addr) (xs : List (Int × Int)) (cap : Nat) (t d : Int) (bp bq : Nat) (w : World) (h0 : Rds cIv 2 w A xs) (hn : xs.length ≤ 9223372036854775807) (hbp0 : w.cell? ⟨bp, 0, none⟩ = some (.int .i64 (t))) (hlbp : bp < w.heap.size) (hbq0 : w.cell? ⟨bq, 0, none⟩ = some (.int .i64 (t + d - 1))) (hlbq : bq < w.heap.size) (hok : ∀ k (hk : k < xs.length), ivP xs[k]) (hd : 1 ≤ d ∧ d ≤ 30) (ht : 0 ≤ t ∧ t ≤ 99999) :
    Calls Try.prog 84 #[.slice A xs.length cap, .func (.func 85) #[] #[.pointer (some ⟨bp, 0, none⟩), .pointer (some ⟨bq, 0, none⟩)]] w fun e w' => e = .returned (.bool (xs.any (hitI t d))) ∧ Below w.heap.size w w' := by
  go_enter Try.func84, Try.ntmps84
  go_wp2_with (go_at_call 93; refine (c_idx_may _ _ _ _ _ _ _ _ (by assumption) (by assumption) (by assumption) (by assumption) (by assumption) (by assumption) hok hd ht).mono ?_; rintro e w' ⟨rfl, hb⟩)
  all_goals go_ret
  all_goals exact ⟨ret_bool (by rw [← idxF_any]; simp), by (repeat' (first | exact Below.refl _ _ | assumption | refine Below.setCell ?_ ?_ _ | refine Below.drew ?_ | refine Below.alloc ?_ ?_ _ | refine Below.trans ?_ (Below.mono (by assumption) ?_) | (simp; done) | (simp; omega) | omega))⟩

set_option maxRecDepth 100000 in
set_option maxHeartbeats 2000000 in
theorem c_impl_mayOpen (d : Int) (A : Option Addr) (xs : List (Int × Int)) (n cap : Nat) (t : Int) (w : World) (hx : Rds cIv 2 w A xs) (hxl : xs.length = n) (hn : xs.length ≤ 9223372036854775807) (hok : ∀ k (hk : k < xs.length), ivP xs[k]) (hd : 1 ≤ d ∧ d ≤ 30) (ht : 0 ≤ t ∧ t ≤ 99999) :
    Calls Try.prog 58 #[.agg #[.int .i64 d, .slice A n cap], .int .i64 t] w fun e w' => e = .returned (.bool (mayB d xs t)) ∧ Below w.heap.size w w' := by
  subst hxl
  have HV := hid (show mayB d xs t = (decide (0 ≤ t ∧ t + d ≤ 10000) && !xs.any (hitI t d)) from rfl)
  by_cases h1 : t + d ≤ 10000
  · rw [show decide (0 ≤ t ∧ t + d ≤ 10000) = true by simp; omega] at HV
    go_enter Try.func58, Try.ntmps58
    go_wp2_with (go_at_call 84; refine (c_has_may _ _ _ t d (w.heap.size + 1) (w.heap.size + 2) _ (by first | assumption | exact Rds.below hx (by (repeat' (first | exact Below.refl _ _ | assumption | refine Below.setCell ?_ ?_ _ | refine Below.drew ?_ | refine Below.alloc ?_ ?_ _ | refine Below.trans ?_ (Below.mono (by assumption) ?_) | (simp; done) | (simp; omega) | omega)))) hn (by first | assumption | (simp [go_sem, ↓IntWalk.iteOmega, *]; done)) (by first | omega | (simp; done) | (simp; omega)) (by first | assumption | (simp [go_sem, ↓IntWalk.iteOmega, *]; done)) (by first | omega | (simp; done) | (simp; omega)) hok hd (by omega)).mono ?_; rintro e w' ⟨rfl, hb⟩)
    all_goals go_ret
    all_goals exact ⟨ret_bool (by rw [HV.out]; simp), by (repeat' (first | exact Below.refl _ _ | assumption | refine Below.setCell ?_ ?_ _ | refine Below.drew ?_ | refine Below.alloc ?_ ?_ _ | refine Below.trans ?_ (Below.mono (by assumption) ?_) | (simp; done) | (simp; omega) | omega))⟩
  · rw [show decide (0 ≤ t ∧ t + d ≤ 10000) = false by simp; omega] at HV
    go_enter Try.func58, Try.ntmps58
    go_wp2_with (fail)
    all_goals go_ret
    all_goals exact ⟨ret_bool (by rw [HV.out]; simp), by (repeat' (first | exact Below.refl _ _ | assumption | refine Below.setCell ?_ ?_ _ | refine Below.drew ?_ | refine Below.alloc ?_ ?_ _ | refine Below.trans ?_ (Below.mono (by assumption) ?_) | (simp; done) | (simp; omega) | omega))⟩

end Go.Proofs.Yteciijnpfapmhaa
