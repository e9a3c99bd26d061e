import Derived.Test.YtgjbdcalmodhpaaPN
import Derived.Test.YtgjbdcalmodhpaaP1
namespace Go.Proofs.Ytgjbdcalmodhpaa
set_option linter.unusedSimpArgs false
set_option linter.unusedVariables false
open Go.RowKit

set_option maxHeartbeats 400000 in
theorem c_impl_isBusy_1 (i : Int) (d : Bool) (a b : Int) (bm : Nat) (m : Int) (w : World) (hm : w.cell? ⟨bm, 0, none⟩ = some (.int .i64 m)) (hbm : bm < w.heap.size) :
    Calls Try.prog 86 #[.agg #[.int .i64 (i), .bool (d), .int .i64 (a), .int .i64 (b)], .pointer (some ⟨bm, 0, none⟩)] w fun e w' => e = .returned (.bool (decide (a ≤ m ∧ m < b))) ∧ Below w.heap.size w w' := by
  go_enter Try.func86, Try.ntmps86
  go_wp2
  all_goals go_ret
  all_goals
    refine ⟨ret_bool ?_, ?_⟩
    · first | rfl | omega | (simp []; done) | (simp []; omega) | (simp []; (repeat' split) <;> (first | omega | (simp; done) | (simp; omega))) | (simp_all []; done) | (simp_all []; omega)
    · (repeat' (first | exact Below.refl _ _ | assumption | refine Below.setCell ?_ ?_ _ | refine Below.drew ?_ | refine Below.alloc ?_ ?_ _ | refine Below.trans ?_ (Below.mono (by assumption) ?_) | (simp; done) | (simp; omega) | omega))

set_option maxHeartbeats 2000000 in
theorem c_idx_isBusy (A : Option Addr) (xs : List (Int × Bool × Int × Int)) (cap : Nat) (m : Int) (bm : Nat) (w : World) (h0 : Rds cPas 4 w A xs) (hn : xs.length ≤ 9223372036854775807) (hm : w.cell? ⟨bm, 0, none⟩ = some (.int .i64 m)) (hbm : bm < w.heap.size) :
    Calls Try.prog 87 #[.slice A xs.length cap, .func (.func 86) #[] #[.pointer (some ⟨bm, 0, none⟩)]] w fun e w' => e = .returned (.int .i64 (idxF (busyP m) xs)) ∧ Below w.heap.size w w' := by
  go_enter Try.func87, Try.ntmps87
  go_wp2_with (fail)
  go_loopw [5, 8] (fun _ i wr => ∃ k : Nat, k ≤ xs.length ∧ i = .int .i64 k ∧ (xs.take k).any (busyP m) = false ∧ Below w.heap.size w wr) (fun _ i _ => xs.length - (intOf i).toNat)
  case atStart => exact ⟨0, Nat.zero_le _, rfl, rfl, Below.refl _ _⟩
  case round =>
    obtain ⟨k, hk, rfl, hl, hbr⟩ := hrel
    have HT := hid hl
    clear hl
    by_cases hlt : k < xs.length
    · obtain ⟨bx, ox, rfl, hbx, hcx⟩ := h0 k xs[k] (List.getElem?_eq_getElem hlt)
      have hx0 := hcx 0 _ rfl
      have hx1 := hcx 1 _ rfl
      have hx2 := hcx 2 _ rfl
      have hx3 := hcx 3 _ rfl
      simp only [Nat.add_zero] at hx0
      clear hcx h0
      skip
      have HS := hid (any_snoc (busyP m) xs k hlt)
      have HH := hid (fun hp => idxF_hit (p := (busyP m)) (xs := xs) HT.out hlt hp)
      obtain ⟨x, hxk⟩ : ∃ x, x = xs[k] := ⟨_, rfl⟩
      simp only [← hxk] at hx0 hx1 hx2 hx3 HS HH
      clear hxk
      have hc := cellOf hbr
      have hf := frozOf hbr
      have hz := sizeOf hbr
      have hmr : wr.cell? ⟨bm, 0, none⟩ = some (.int .i64 m) := by rw [hc, if_pos hbm]; exact hm
      by_cases hp : (busyP m) x = true
      · have HP := hid hp
        have hp' := hp
        simp only [busyP] at hp'
        clear hp
        go_wp2_with (go_at_call 86; refine (c_impl_isBusy_1 _ _ _ _ bm m _ hmr (by omega)).mono ?_; rintro e w2 ⟨rfl, hb2⟩)
        go_ret
        exact ⟨ret_int (HH.out HP.out).symm, by (repeat' (first | exact Below.refl _ _ | assumption | refine Below.setCell ?_ ?_ _ | refine Below.drew ?_ | refine Below.alloc ?_ ?_ _ | refine Below.trans ?_ (Below.mono (by assumption) ?_) | (simp; done) | (simp; omega) | omega))⟩
      · have HP : Hid ((busyP m) x = false) := by show _ = _; simpa using hp
        have hp' := HP.out
        simp only [busyP] at hp'
        clear hp
        go_wp2_with (go_at_call 86; refine (c_impl_isBusy_1 _ _ _ _ bm m _ hmr (by omega)).mono ?_; rintro e w2 ⟨rfl, hb2⟩)
        go_roundw
        case rel => exact ⟨k + 1, by omega, by go_num, by rw [HS.out, HT.out, HP.out]; rfl, by (repeat' (first | exact Below.refl _ _ | assumption | refine Below.setCell ?_ ?_ _ | refine Below.drew ?_ | refine Below.alloc ?_ ?_ _ | refine Below.trans ?_ (Below.mono (by assumption) ?_) | (simp; done) | (simp; omega) | omega))⟩
        case measure => simp [intOf]; omega
    · obtain rfl : k = xs.length := by omega
      have HN := hid (idxF_none (p := (busyP m)) (xs := xs) (by have := HT.out; rwa [List.take_length] at this))
      go_wp2_with (fail)
      go_ret
      exact ⟨ret_int HN.out.symm, by (repeat' (first | exact Below.refl _ _ | assumption | refine Below.setCell ?_ ?_ _ | refine Below.drew ?_ | refine Below.alloc ?_ ?_ _ | refine Below.trans ?_ (Below.mono (by assumption) ?_) | (simp; done) | (simp; omega) | omega))⟩

set_option maxHeartbeats 2000000 in
theorem c_has_isBusy (A : Option Addr) (xs : List (Int × Bool × Int × Int)) (cap : Nat) (m : Int) (bm : Nat) (w : World) (h0 : Rds cPas 4 w A xs) (hn : xs.length ≤ 9223372036854775807) (hm : w.cell? ⟨bm, 0, none⟩ = some (.int .i64 m)) (hbm : bm < w.heap.size) :
    Calls Try.prog 67 #[.slice A xs.length cap, .func (.func 86) #[] #[.pointer (some ⟨bm, 0, none⟩)]] w fun e w' => e = .returned (.bool (xs.any (busyP m))) ∧ Below w.heap.size w w' := by
  go_enter Try.func67, Try.ntmps67
  go_wp2_with (go_at_call 87; refine (c_idx_isBusy _ _ _ _ _ _ (by assumption) (by assumption) (by assumption) (by assumption)).mono ?_; rintro e w' ⟨rfl, hb⟩)
  all_goals go_ret
  all_goals exact ⟨ret_bool (by rw [← idxF_any]; simp), by (repeat' (first | exact Below.refl _ _ | assumption | refine Below.setCell ?_ ?_ _ | refine Below.drew ?_ | refine Below.alloc ?_ ?_ _ | refine Below.trans ?_ (Below.mono (by assumption) ?_) | (simp; done) | (simp; omega) | omega))⟩

set_option maxHeartbeats 2000000 in
theorem c_impl_isBusy (A : Option Addr) (xs : List (Int × Bool × Int × Int)) (cap : Nat) (m : Int) (w : World) (hx : Rds cPas 4 w A xs) (hn : xs.length ≤ 9223372036854775807) :
    Calls Try.prog 61 #[.slice A xs.length cap, .int .i64 m] w fun e w' => e = .returned (.bool (busyA xs m)) ∧ Below w.heap.size w w' := by
  have hx' := hx.below ((Below.refl w.heap.size w).alloc (Nat.le_refl _) (.cells #[.int .i64 m] 3))
  go_enter Try.func61, Try.ntmps61
  go_wp2_with (go_at_call 67; refine (c_has_isBusy _ _ _ m w.heap.size _ hx' (by omega) (by simp [go_sem]) (by simp)).mono ?_; rintro e w' ⟨rfl, hb⟩)
  all_goals go_ret
  all_goals exact ⟨rfl, by (repeat' (first | exact Below.refl _ _ | assumption | refine Below.setCell ?_ ?_ _ | refine Below.drew ?_ | refine Below.alloc ?_ ?_ _ | refine Below.trans ?_ (Below.mono (by assumption) ?_) | (simp; done) | (simp; omega) | omega))⟩

end Go.Proofs.Ytgjbdcalmodhpaa
