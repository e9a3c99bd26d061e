import Derived.Test.YtgjbdcalmodhpaaD2
namespace Go.Proofs.Ytgjbdcalmodhpaa
set_option linter.unusedSimpArgs false
set_option linter.unusedVariables false
open Go.RowKit

set_option maxHeartbeats 2000000 in
theorem c_idx_delay (A : Option Addr) (xs : List (Int × Bool × Int × Int)) (cap : Nat) (pi : Int) (d : Bool) (a b g y : Int) (bp bq bg : Nat) (w : World) (h0 : Rds cPas 4 w A xs) (hn : xs.length ≤ 9223372036854775807) (hbp0 : w.cell? ⟨bp, 0, none⟩ = some (.int .i64 (pi))) (hbp1 : w.cell? ⟨bp, 1, none⟩ = some (.bool (d))) (hbp2 : w.cell? ⟨bp, 2, none⟩ = some (.int .i64 (a))) (hbp3 : w.cell? ⟨bp, 3, none⟩ = some (.int .i64 (b))) (hlbp : bp < w.heap.size) (hbq0 : w.cell? ⟨bq, 0, none⟩ = some (.int .i64 (y))) (hlbq : bq < w.heap.size) (hbg0 : w.cell? ⟨bg, 0, none⟩ = some (.int .i64 (g))) (hlbg : bg < w.heap.size) (hok : ∀ k (hk : k < xs.length), bdP xs[k]) (hab : 0 ≤ a ∧ a ≤ 9999 ∧ 0 ≤ b ∧ b ≤ 9999 ∧ 0 ≤ y ∧ y ≤ 9999) :
    Calls Try.prog 87 #[.slice A xs.length cap, .func (.func 88) #[] #[.pointer (some ⟨bp, 0, none⟩), .pointer (some ⟨bq, 0, none⟩), .pointer (some ⟨bg, 0, none⟩)]] w fun e w' => e = .returned (.int .i64 (idxF (delP pi d a b g y) xs)) ∧ Below w.heap.size w w' := by
  go_enter Try.func87, Try.ntmps87
  go_wp2_with (fail)
  go_loopw [5, 8] (fun _ i wr => ∃ k : Nat, k ≤ xs.length ∧ i = .int .i64 k ∧ (xs.take k).any (delP pi d a b g y) = false ∧ Below w.heap.size w wr) (fun _ i _ => xs.length - (intOf i).toNat)
  case atStart => exact ⟨0, Nat.zero_le _, rfl, rfl, Below.refl _ _⟩
  case round =>
    obtain ⟨k, hk, rfl, hl, hbr⟩ := hrel
    have HT := hid hl
    clear hl
    by_cases hlt : k < xs.length
    · obtain ⟨bx, ox, rfl, hbx, hcx⟩ := h0 k xs[k] (List.getElem?_eq_getElem hlt)
      have hx0 := hcx 0 _ rfl
      have hx1 := hcx 1 _ rfl
      have hx2 := hcx 2 _ rfl
      have hx3 := hcx 3 _ rfl
      simp only [Nat.add_zero] at hx0
      clear hcx h0
      have hbx := hok k hlt
      clear hok
      have HS := hid (any_snoc (delP pi d a b g y) xs k hlt)
      have HH := hid (fun hp => idxF_hit (p := (delP pi d a b g y)) (xs := xs) HT.out hlt hp)
      obtain ⟨x, hxk⟩ : ∃ x, x = xs[k] := ⟨_, rfl⟩
      simp only [← hxk] at hx0 hx1 hx2 hx3 HS HH hbx
      clear hxk
      have hc := cellOf hbr
      have hf := frozOf hbr
      have hz := sizeOf hbr
      have mbp0 : wr.cell? ⟨bp, 0, none⟩ = some (.int .i64 (pi)) := by rw [hc, if_pos hlbp]; exact hbp0
      have mbp1 : wr.cell? ⟨bp, 1, none⟩ = some (.bool (d)) := by rw [hc, if_pos hlbp]; exact hbp1
      have mbp2 : wr.cell? ⟨bp, 2, none⟩ = some (.int .i64 (a)) := by rw [hc, if_pos hlbp]; exact hbp2
      have mbp3 : wr.cell? ⟨bp, 3, none⟩ = some (.int .i64 (b)) := by rw [hc, if_pos hlbp]; exact hbp3
      have mlbp : bp < wr.heap.size := by omega
      have mbq0 : wr.cell? ⟨bq, 0, none⟩ = some (.int .i64 (y)) := by rw [hc, if_pos hlbq]; exact hbq0
      have mlbq : bq < wr.heap.size := by omega
      have mbg0 : wr.cell? ⟨bg, 0, none⟩ = some (.int .i64 (g)) := by rw [hc, if_pos hlbg]; exact hbg0
      have mlbg : bg < wr.heap.size := by omega
      unfold bdP at hbx
      by_cases hp : (delP pi d a b g y) x = true
      · have HP := hid hp
        have hp' := hp
        simp only [delP] at hp'
        clear hp
        go_wp2_with (go_at_call 88; refine (c_impl_smallestDelay_1 _ _ _ _ pi d a b y g bp bq bg _ mbp0 mbp1 mbp2 mbp3 mlbp mbq0 mlbq mbg0 mlbg (by omega) (by omega) (by omega) (by omega) (by omega)).mono ?_; rintro e w2 ⟨rfl, hb2⟩)
        go_ret
        exact ⟨ret_int (HH.out HP.out).symm, by (repeat' (first | exact Below.refl _ _ | assumption | refine Below.setCell ?_ ?_ _ | refine Below.drew ?_ | refine Below.alloc ?_ ?_ _ | refine Below.trans ?_ (Below.mono (by assumption) ?_) | (simp; done) | (simp; omega) | omega))⟩
      · have HP : Hid ((delP pi d a b g y) x = false) := by show _ = _; simpa using hp
        have hp' := HP.out
        simp only [delP] at hp'
        clear hp
        go_wp2_with (go_at_call 88; refine (c_impl_smallestDelay_1 _ _ _ _ pi d a b y g bp bq bg _ mbp0 mbp1 mbp2 mbp3 mlbp mbq0 mlbq mbg0 mlbg (by omega) (by omega) (by omega) (by omega) (by omega)).mono ?_; rintro e w2 ⟨rfl, hb2⟩)
        go_roundw
        case rel => exact ⟨k + 1, by omega, by go_num, by rw [HS.out, HT.out, HP.out]; rfl, by (repeat' (first | exact Below.refl _ _ | assumption | refine Below.setCell ?_ ?_ _ | refine Below.drew ?_ | refine Below.alloc ?_ ?_ _ | refine Below.trans ?_ (Below.mono (by assumption) ?_) | (simp; done) | (simp; omega) | omega))⟩
        case measure => simp [intOf]; omega
    · obtain rfl : k = xs.length := by omega
      have HN := hid (idxF_none (p := (delP pi d a b g y)) (xs := xs) (by have := HT.out; rwa [List.take_length] at this))
      go_wp2_with (fail)
      go_ret
      exact ⟨ret_int HN.out.symm, by (repeat' (first | exact Below.refl _ _ | assumption | refine Below.setCell ?_ ?_ _ | refine Below.drew ?_ | refine Below.alloc ?_ ?_ _ | refine Below.trans ?_ (Below.mono (by assumption) ?_) | (simp; done) | (simp; omega) | omega))⟩

set_option maxHeartbeats 2000000 in
theorem c_has_delay (A : Option Addr) (xs : List (Int × Bool × Int × Int)) (cap : Nat) (pi : Int) (d : Bool) (a b g y : Int) (bp bq bg : Nat) (w : World) (h0 : Rds cPas 4 w A xs) (hn : xs.length ≤ 9223372036854775807) (hbp0 : w.cell? ⟨bp, 0, none⟩ = some (.int .i64 (pi))) (hbp1 : w.cell? ⟨bp, 1, none⟩ = some (.bool (d))) (hbp2 : w.cell? ⟨bp, 2, none⟩ = some (.int .i64 (a))) (hbp3 : w.cell? ⟨bp, 3, none⟩ = some (.int .i64 (b))) (hlbp : bp < w.heap.size) (hbq0 : w.cell? ⟨bq, 0, none⟩ = some (.int .i64 (y))) (hlbq : bq < w.heap.size) (hbg0 : w.cell? ⟨bg, 0, none⟩ = some (.int .i64 (g))) (hlbg : bg < w.heap.size) (hok : ∀ k (hk : k < xs.length), bdP xs[k]) (hab : 0 ≤ a ∧ a ≤ 9999 ∧ 0 ≤ b ∧ b ≤ 9999 ∧ 0 ≤ y ∧ y ≤ 9999) :
    Calls Try.prog 67 #[.slice A xs.length cap, .func (.func 88) #[] #[.pointer (some ⟨bp, 0, none⟩), .pointer (some ⟨bq, 0, none⟩), .pointer (some ⟨bg, 0, none⟩)]] w fun e w' => e = .returned (.bool (xs.any (delP pi d a b g y))) ∧ Below w.heap.size w w' := by
  go_enter Try.func67, Try.ntmps67
  go_wp2_with (go_at_call 87; refine (c_idx_delay _ _ _ _ _ _ _ _ _ _ _ _ _ (by assumption) (by assumption) (by assumption) (by assumption) (by assumption) (by assumption) (by assumption) (by assumption) (by assumption) (by assumption) (by assumption) (by assumption) (by assumption)).mono ?_; rintro e w' ⟨rfl, hb⟩)
  all_goals go_ret
  all_goals exact ⟨ret_bool (by rw [← idxF_any]; simp), by (repeat' (first | exact Below.refl _ _ | assumption | refine Below.setCell ?_ ?_ _ | refine Below.drew ?_ | refine Below.alloc ?_ ?_ _ | refine Below.trans ?_ (Below.mono (by assumption) ?_) | (simp; done) | (simp; omega) | omega))⟩

set_option maxHeartbeats 2000000 in
theorem c_idx_same (A : Option Addr) (xs : List (Int × Bool × Int × Int)) (cap : Nat) (pi : Int) (bp : Nat) (w : World) (h0 : Rds cPas 4 w A xs) (hn : xs.length ≤ 9223372036854775807) (hbp0 : w.cell? ⟨bp, 0, none⟩ = some (.int .i64 pi)) (hlbp : bp < w.heap.size) :
    Calls Try.prog 87 #[.slice A xs.length cap, .func (.func 68) #[] #[.pointer (some ⟨bp, 0, none⟩)]] w fun e w' => e = .returned (.int .i64 (idxF (sameP pi) xs)) ∧ Below w.heap.size w w' := by
  go_enter Try.func87, Try.ntmps87
  go_wp2_with (fail)
  go_loopw [5, 8] (fun _ i wr => ∃ k : Nat, k ≤ xs.length ∧ i = .int .i64 k ∧ (xs.take k).any (sameP pi) = false ∧ Below w.heap.size w wr) (fun _ i _ => xs.length - (intOf i).toNat)
  case atStart => exact ⟨0, Nat.zero_le _, rfl, rfl, Below.refl _ _⟩
  case round =>
    obtain ⟨k, hk, rfl, hl, hbr⟩ := hrel
    have HT := hid hl
    clear hl
    by_cases hlt : k < xs.length
    · obtain ⟨bx, ox, rfl, hbx, hcx⟩ := h0 k xs[k] (List.getElem?_eq_getElem hlt)
      have hx0 := hcx 0 _ rfl
      have hx1 := hcx 1 _ rfl
      have hx2 := hcx 2 _ rfl
      have hx3 := hcx 3 _ rfl
      simp only [Nat.add_zero] at hx0
      clear hcx h0
      skip
      have HS := hid (any_snoc (sameP pi) xs k hlt)
      have HH := hid (fun hp => idxF_hit (p := (sameP pi)) (xs := xs) HT.out hlt hp)
      obtain ⟨x, hxk⟩ : ∃ x, x = xs[k] := ⟨_, rfl⟩
      simp only [← hxk] at hx0 hx1 hx2 hx3 HS HH
      clear hxk
      have hc := cellOf hbr
      have hf := frozOf hbr
      have hz := sizeOf hbr
      have mbp0 : wr.cell? ⟨bp, 0, none⟩ = some (.int .i64 (pi)) := by rw [hc, if_pos hlbp]; exact hbp0
      have mlbp : bp < wr.heap.size := by omega
      by_cases hp : (sameP pi) x = true
      · have HP := hid hp
        have hp' := hp
        simp only [sameP] at hp'
        clear hp
        go_wp2_with (go_at_call 68; refine (c_impl_SmallestDelay_1 _ _ _ _ pi bp _ mbp0 mlbp).mono ?_; rintro e w2 ⟨rfl, hb2⟩)
        go_ret
        exact ⟨ret_int (HH.out HP.out).symm, by (repeat' (first | exact Below.refl _ _ | assumption | refine Below.setCell ?_ ?_ _ | refine Below.drew ?_ | refine Below.alloc ?_ ?_ _ | refine Below.trans ?_ (Below.mono (by assumption) ?_) | (simp; done) | (simp; omega) | omega))⟩
      · have HP : Hid ((sameP pi) x = false) := by show _ = _; simpa using hp
        have hp' := HP.out
        simp only [sameP] at hp'
        clear hp
        go_wp2_with (go_at_call 68; refine (c_impl_SmallestDelay_1 _ _ _ _ pi bp _ mbp0 mlbp).mono ?_; rintro e w2 ⟨rfl, hb2⟩)
        go_roundw
        case rel => exact ⟨k + 1, by omega, by go_num, by rw [HS.out, HT.out, HP.out]; rfl, by (repeat' (first | exact Below.refl _ _ | assumption | refine Below.setCell ?_ ?_ _ | refine Below.drew ?_ | refine Below.alloc ?_ ?_ _ | refine Below.trans ?_ (Below.mono (by assumption) ?_) | (simp; done) | (simp; omega) | omega))⟩
        case measure => simp [intOf]; omega
    · obtain rfl : k = xs.length := by omega
      have HN := hid (idxF_none (p := (sameP pi)) (xs := xs) (by have := HT.out; rwa [List.take_length] at this))
      go_wp2_with (fail)
      go_ret
      exact ⟨ret_int HN.out.symm, by (repeat' (first | exact Below.refl _ _ | assumption | refine Below.setCell ?_ ?_ _ | refine Below.drew ?_ | refine Below.alloc ?_ ?_ _ | refine Below.trans ?_ (Below.mono (by assumption) ?_) | (simp; done) | (simp; omega) | omega))⟩

set_option maxHeartbeats 2000000 in
theorem c_has_same (A : Option Addr) (xs : List (Int × Bool × Int × Int)) (cap : Nat) (pi : Int) (bp : Nat) (w : World) (h0 : Rds cPas 4 w A xs) (hn : xs.length ≤ 9223372036854775807) (hbp0 : w.cell? ⟨bp, 0, none⟩ = some (.int .i64 pi)) (hlbp : bp < w.heap.size) :
    Calls Try.prog 67 #[.slice A xs.length cap, .func (.func 68) #[] #[.pointer (some ⟨bp, 0, none⟩)]] w fun e w' => e = .returned (.bool (xs.any (sameP pi))) ∧ Below w.heap.size w w' := by
  go_enter Try.func67, Try.ntmps67
  go_wp2_with (go_at_call 87; refine (c_idx_same _ _ _ _ _ _ (by assumption) (by assumption) (by assumption) (by assumption)).mono ?_; rintro e w' ⟨rfl, hb⟩)
  all_goals go_ret
  all_goals exact ⟨ret_bool (by rw [← idxF_any]; simp), by (repeat' (first | exact Below.refl _ _ | assumption | refine Below.setCell ?_ ?_ _ | refine Below.drew ?_ | refine Below.alloc ?_ ?_ _ | refine Below.trans ?_ (Below.mono (by assumption) ?_) | (simp; done) | (simp; omega) | omega))⟩

end Go.Proofs.Ytgjbdcalmodhpaa
