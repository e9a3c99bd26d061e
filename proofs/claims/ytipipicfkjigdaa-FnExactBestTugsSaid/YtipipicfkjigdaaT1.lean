import Derived.Test.YtipipicfkjigdaaT0
namespace Go.Proofs.Ytipipicfkjigdaa
set_option linter.unusedSimpArgs false
set_option linter.unusedVariables false
open Go.RowKit

theorem p_absI (p : Int) (w : World) (hb_p : -99999 ≤ p ∧ p ≤ 99999) : Calls Try.prog 54 #[.int .i64 p] w fun e w' => e = .returned (.int .i64 (absI p)) ∧ w' = w := by
  go_enter Try.func54, Try.ntmps54
  go_wp2_with (fail)
  all_goals go_ret
  all_goals exact ⟨ret_int (by unfold absI; omega), rfl⟩
theorem p_most (a b : Int) (w : World) : Calls Try.prog 61 #[.int .i64 a, .int .i64 b] w fun e w' => e = .returned (.int .i64 (max a b)) ∧ w' = w := by
  go_enter Try.func61, Try.ntmps61
  go_wp2_with (fail)
  all_goals go_ret
  all_goals exact ⟨ret_int (by omega), rfl⟩
theorem p_farI (a b : Int) (w : World) (hb_a : -99999 ≤ a ∧ a ≤ 99999) (hb_b : -99999 ≤ b ∧ b ≤ 99999) : Calls Try.prog 53 #[.int .i64 a, .int .i64 b] w fun e w' => e = .returned (.int .i64 (absI (a - b))) ∧ w' = w := by
  go_enter Try.func53, Try.ntmps53
  go_wp2_with (go_at_call 61; refine (p_most _ _ _).mono ?_; rintro e w' ⟨rfl, rfl⟩)
  all_goals go_ret
  all_goals exact ⟨ret_int (by unfold absI; omega), rfl⟩

set_option maxHeartbeats 2000000 in
theorem c_spec_l17Find (A : Option Addr) (ts : List TugT) (cap : Nat) (x : Int) (w : World) (hx : Rds cTug 3 w A ts) (hn : ts.length ≤ 9223372036854775807) :
    Calls Try.prog 66 #[.slice A ts.length cap, .int .i64 x] w fun e w' => e = .returned (.int .i64 (tix ts x)) ∧ w' = w := by
  go_enter Try.func66, Try.ntmps66
  go_wp2_with (fail)
  go_loopw [5] (fun i wr => ∃ k : Nat, k ≤ ts.length ∧ i = .int .i64 k ∧ (ts.take k).any (idIs x) = false ∧ wr = w) (fun i _ => ts.length - (intOf i).toNat)
  case atStart => exact ⟨0, Nat.zero_le _, rfl, rfl, rfl⟩
  case round =>
    obtain ⟨k, hk, rfl, hl, rfl⟩ := hrel
    have HT := hid hl
    clear hl
    by_cases hlt : k < ts.length
    · obtain ⟨bx, ox, rfl, hbx, hcx⟩ := hx k ts[k] (List.getElem?_eq_getElem hlt)
      have hx0 := hcx 0 _ rfl
      simp only [Nat.add_zero] at hx0
      have HS := hid (any_snoc (idIs x) ts k hlt)
      have HH := hid (fun hp => idxF_hit (p := idIs x) (xs := ts) HT.out hlt hp)
      clear hcx hx
      obtain ⟨t, htk⟩ : ∃ t, t = ts[k] := ⟨_, rfl⟩
      simp only [← htk] at hx0 HS HH
      clear htk
      by_cases hp : t.1 = x
      · have HP : Hid (idIs x t = true) := by show _ = _; simp [idIs, hp]
        go_wp2_with (fail)
        go_ret
        exact ⟨ret_int (HH.out HP.out).symm, rfl⟩
      · have HP : Hid (idIs x t = false) := by show _ = _; simp [idIs, hp]
        go_wp2_with (fail)
        go_roundw
        case rel => exact ⟨k + 1, by omega, by go_num, by rw [HS.out, HT.out, HP.out]; rfl, by first | trivial | rfl⟩
        case measure => simp [intOf]; omega
    · obtain rfl : k = ts.length := by omega
      have HN := hid (idxF_none (p := idIs x) (xs := ts) (by have := HT.out; rwa [List.take_length] at this))
      go_wp2_with (fail)
      go_ret
      exact ⟨ret_int HN.out.symm, rfl⟩

set_option maxHeartbeats 2000000 in
theorem c_impl_tugIndex_1 (a b c z : Int) (bp : Nat) (w : World) (hp : w.cell? ⟨bp, 0, none⟩ = some (.int .i64 z)) (hlp : bp < w.heap.size) :
    Calls Try.prog 72 #[.agg #[.int .i64 (a), .int .i64 (b), .int .i64 (c)], .pointer (some ⟨bp, 0, none⟩)] w fun e w' => e = .returned (.bool (decide (a = z))) ∧ Below w.heap.size w w' := by
  go_enter Try.func72, Try.ntmps72
  go_wp2
  all_goals go_ret
  all_goals
    refine ⟨ret_bool ?_, ?_⟩
    · first | rfl | omega | (simp []; done) | (simp []; omega) | (simp []; (repeat' split) <;> (first | omega | (simp; done) | (simp; omega))) | (simp_all []; done) | (simp_all []; omega)
    · (repeat' (first | exact Below.refl _ _ | assumption | refine Below.setCell ?_ ?_ _ | refine Below.drew ?_ | refine Below.alloc ?_ ?_ _ | refine Below.trans ?_ (Below.mono (by assumption) ?_) | (simp; done) | (simp; omega) | omega))

set_option maxHeartbeats 2000000 in
theorem c_idx_tug (A : Option Addr) (xs : List (Int × Int × Int)) (cap : Nat) (z : Int) (bp : Nat) (w : World) (h0 : Rds cTug 3 w A xs) (hn : xs.length ≤ 9223372036854775807) (hbp0 : w.cell? ⟨bp, 0, none⟩ = some (.int .i64 z)) (hlbp : bp < w.heap.size) :
    Calls Try.prog 71 #[.slice A xs.length cap, .func (.func 72) #[] #[.pointer (some ⟨bp, 0, none⟩)]] w fun e w' => e = .returned (.int .i64 (idxF (idIs z) xs)) ∧ Below w.heap.size w w' := by
  go_enter Try.func71, Try.ntmps71
  go_wp2_with (fail)
  go_loopw [5, 8] (fun _ i wr => ∃ k : Nat, k ≤ xs.length ∧ i = .int .i64 k ∧ (xs.take k).any (idIs z) = false ∧ Below w.heap.size w wr) (fun _ i _ => xs.length - (intOf i).toNat)
  case atStart => exact ⟨0, Nat.zero_le _, rfl, rfl, Below.refl _ _⟩
  case round =>
    obtain ⟨k, hk, rfl, hl, hbr⟩ := hrel
    have HT := hid hl
    clear hl
    by_cases hlt : k < xs.length
    · obtain ⟨bx, ox, rfl, hbx, hcx⟩ := h0 k xs[k] (List.getElem?_eq_getElem hlt)
      have hx0 := hcx 0 _ rfl
      have hx1 := hcx 1 _ rfl
      have hx2 := hcx 2 _ rfl
      simp only [Nat.add_zero] at hx0
      clear hcx h0
      skip
      have HS := hid (any_snoc (idIs z) xs k hlt)
      have HH := hid (fun hp => idxF_hit (p := (idIs z)) (xs := xs) HT.out hlt hp)
      obtain ⟨x, hxk⟩ : ∃ x, x = xs[k] := ⟨_, rfl⟩
      simp only [← hxk] at hx0 hx1 hx2 HS HH
      clear hxk
      have hc := cellOf hbr
      have hf := frozOf hbr
      have hz := sizeOf hbr
      have mbp0 : wr.cell? ⟨bp, 0, none⟩ = some (.int .i64 z) := by rw [hc, if_pos hlbp]; exact hbp0
      have mlbp : bp < wr.heap.size := by omega
      by_cases hp : (idIs z) x = true
      · have HP := hid hp
        have hp' := hp
        simp only [idIs] at hp'
        clear hp
        go_wp2_with (go_at_call 72; refine (c_impl_tugIndex_1 _ _ _ z bp _ mbp0 mlbp).mono ?_; rintro e w2 ⟨rfl, hb2⟩)
        go_ret
        exact ⟨ret_int (HH.out HP.out).symm, by (repeat' (first | exact Below.refl _ _ | assumption | refine Below.setCell ?_ ?_ _ | refine Below.drew ?_ | refine Below.alloc ?_ ?_ _ | refine Below.trans ?_ (Below.mono (by assumption) ?_) | (simp; done) | (simp; omega) | omega))⟩
      · have HP : Hid ((idIs z) x = false) := by show _ = _; simpa using hp
        have hp' := HP.out
        simp only [idIs] at hp'
        clear hp
        go_wp2_with (go_at_call 72; refine (c_impl_tugIndex_1 _ _ _ z bp _ mbp0 mlbp).mono ?_; rintro e w2 ⟨rfl, hb2⟩)
        go_roundw
        case rel => exact ⟨k + 1, by omega, by go_num, by rw [HS.out, HT.out, HP.out]; rfl, by (repeat' (first | exact Below.refl _ _ | assumption | refine Below.setCell ?_ ?_ _ | refine Below.drew ?_ | refine Below.alloc ?_ ?_ _ | refine Below.trans ?_ (Below.mono (by assumption) ?_) | (simp; done) | (simp; omega) | omega))⟩
        case measure => simp [intOf]; omega
    · obtain rfl : k = xs.length := by omega
      have HN := hid (idxF_none (p := (idIs z)) (xs := xs) (by have := HT.out; rwa [List.take_length] at this))
      go_wp2_with (fail)
      go_ret
      exact ⟨ret_int HN.out.symm, by (repeat' (first | exact Below.refl _ _ | assumption | refine Below.setCell ?_ ?_ _ | refine Below.drew ?_ | refine Below.alloc ?_ ?_ _ | refine Below.trans ?_ (Below.mono (by assumption) ?_) | (simp; done) | (simp; omega) | omega))⟩

theorem c_impl_tugIndex (A : Option Addr) (ts : List TugT) (cap : Nat) (x : Int) (w : World) (hx : Rds cTug 3 w A ts) (hn : ts.length ≤ 9223372036854775807) :
    Calls Try.prog 67 #[.slice A ts.length cap, .int .i64 x] w fun e w' => e = .returned (.int .i64 (tix ts x)) ∧ Below w.heap.size w w' := by
  go_enter Try.func67, Try.ntmps67
  go_wp2_with (go_at_call 71; refine (c_idx_tug _ _ _ x w.heap.size _ (by first | assumption | exact Rds.below hx (by (repeat' (first | exact Below.refl _ _ | assumption | refine Below.setCell ?_ ?_ _ | refine Below.drew ?_ | refine Below.alloc ?_ ?_ _ | refine Below.trans ?_ (Below.mono (by assumption) ?_) | (simp; done) | (simp; omega) | omega)))) (by omega) (by first | assumption | (simp [go_sem, ↓IntWalk.iteOmega, *]; done)) (by first | omega | (simp; done) | (simp; omega))).mono ?_; rintro e w' ⟨rfl, hb⟩)
  go_ret
  exact ⟨rfl, by (repeat' (first | exact Below.refl _ _ | assumption | refine Below.setCell ?_ ?_ _ | refine Below.drew ?_ | refine Below.alloc ?_ ?_ _ | refine Below.trans ?_ (Below.mono (by assumption) ?_) | (simp; done) | (simp; omega) | omega))⟩

end Go.Proofs.Ytipipicfkjigdaa
