import Derived.Test.YteciijnpfapmhaaK1
import Derived.Test.YteciijnpfapmhaaG1i
namespace Go.Proofs.Yteciijnpfapmhaa
set_option linter.unusedSimpArgs false
set_option linter.unusedVariables false
open Go.RowKit

set_option maxHeartbeats 400000 in
theorem c_impl_areRequests_1 (x : Int) (w : World)  :
    Calls Try.prog 87 #[.int .i64 (x)] w fun e w' => e = .returned (.bool (!minB x)) ∧ Below w.heap.size w w' := by
  go_enter Try.func87, Try.ntmps87
  go_wp2_with (first | (go_at_call 57; refine (c_impl_isMinute _ _ ).mono ?_; rintro e w' ⟨rfl, hb⟩; have hc := cellOf hb; have hf := frozOf hb; have hz := sizeOf hb; try simp at hz))
  all_goals go_ret
  all_goals
    refine ⟨ret_bool ?_, ?_⟩
    · first | rfl | omega | (simp []; done) | (simp []; omega) | (simp []; (repeat' split) <;> (first | omega | (simp; done) | (simp; omega))) | (simp_all []; done) | (simp_all []; omega)
    · (repeat' (first | exact Below.refl _ _ | assumption | refine Below.setCell ?_ ?_ _ | refine Below.drew ?_ | refine Below.alloc ?_ ?_ _ | refine Below.trans ?_ (Below.mono (by assumption) ?_) | (simp; done) | (simp; omega) | omega))

set_option maxHeartbeats 2000000 in
theorem c_idx_req (A : Option Addr) (xs : List (Int)) (cap : Nat)  (w : World) (h0 : Rds cIn 1 w A xs) (hn : xs.length ≤ 9223372036854775807)  :
    Calls Try.prog 88 #[.slice A xs.length cap, .func (.func 87) #[] #[]] w fun e w' => e = .returned (.int .i64 (idxF noMin xs)) ∧ Below w.heap.size w w' := by
  go_enter Try.func88, Try.ntmps88
  go_wp2_with (fail)
  go_loopw [5, 8] (fun _ i wr => ∃ k : Nat, k ≤ xs.length ∧ i = .int .i64 k ∧ (xs.take k).any noMin = false ∧ Below w.heap.size w wr) (fun _ i _ => xs.length - (intOf i).toNat)
  case atStart => exact ⟨0, Nat.zero_le _, rfl, rfl, Below.refl _ _⟩
  case round =>
    obtain ⟨k, hk, rfl, hl, hbr⟩ := hrel
    have HT := hid hl
    clear hl
    by_cases hlt : k < xs.length
    · obtain ⟨bx, ox, rfl, hbx, hcx⟩ := h0 k xs[k] (List.getElem?_eq_getElem hlt)
      have hx0 := hcx 0 _ rfl
      simp only [Nat.add_zero, Nat.mul_one] at hx0
      clear hcx h0
      skip
      have HS := hid (any_snoc noMin xs k hlt)
      have HH := hid (fun hp => idxF_hit (p := noMin) (xs := xs) HT.out hlt hp)
      obtain ⟨x, hxk⟩ : ∃ x, x = xs[k] := ⟨_, rfl⟩
      simp only [← hxk] at hx0 HS HH
      clear hxk
      have hc := cellOf hbr
      have hf := frozOf hbr
      have hz := sizeOf hbr
      skip
      by_cases hp : noMin x = true
      · have HP := hid hp
        have hp' := hp
        simp only [noMin, Bool.not_eq_true', Bool.not_eq_false'] at hp'
        clear hp
        go_wp2_with (go_at_call 87; refine (c_impl_areRequests_1 _ _).mono ?_; rintro e w2 ⟨rfl, hb2⟩)
        go_ret
        exact ⟨ret_int (HH.out HP.out).symm, by (repeat' (first | exact Below.refl _ _ | assumption | refine Below.setCell ?_ ?_ _ | refine Below.drew ?_ | refine Below.alloc ?_ ?_ _ | refine Below.trans ?_ (Below.mono (by assumption) ?_) | (simp; done) | (simp; omega) | omega))⟩
      · have HP : Hid (noMin x = false) := by show _ = _; simpa using hp
        have hp' := HP.out
        simp only [noMin, Bool.not_eq_true', Bool.not_eq_false'] at hp'
        clear hp
        go_wp2_with (go_at_call 87; refine (c_impl_areRequests_1 _ _).mono ?_; rintro e w2 ⟨rfl, hb2⟩)
        go_roundw
        case rel => exact ⟨k + 1, by omega, by go_num, by rw [HS.out, HT.out, HP.out]; rfl, by (repeat' (first | exact Below.refl _ _ | assumption | refine Below.setCell ?_ ?_ _ | refine Below.drew ?_ | refine Below.alloc ?_ ?_ _ | refine Below.trans ?_ (Below.mono (by assumption) ?_) | (simp; done) | (simp; omega) | omega))⟩
        case measure => simp [intOf]; omega
    · obtain rfl : k = xs.length := by omega
      have HN := hid (idxF_none (p := noMin) (xs := xs) (by have := HT.out; rwa [List.take_length] at this))
      go_wp2_with (fail)
      go_ret
      exact ⟨ret_int HN.out.symm, by (repeat' (first | exact Below.refl _ _ | assumption | refine Below.setCell ?_ ?_ _ | refine Below.drew ?_ | refine Below.alloc ?_ ?_ _ | refine Below.trans ?_ (Below.mono (by assumption) ?_) | (simp; done) | (simp; omega) | omega))⟩

set_option maxHeartbeats 2000000 in
theorem c_has_req (A : Option Addr) (xs : List (Int)) (cap : Nat)  (w : World) (h0 : Rds cIn 1 w A xs) (hn : xs.length ≤ 9223372036854775807)  :
    Calls Try.prog 64 #[.slice A xs.length cap, .func (.func 87) #[] #[]] w fun e w' => e = .returned (.bool (xs.any noMin)) ∧ Below w.heap.size w w' := by
  go_enter Try.func64, Try.ntmps64
  go_wp2_with (go_at_call 88; refine (c_idx_req _ _ _ _ (by assumption) (by assumption) ).mono ?_; rintro e w' ⟨rfl, hb⟩)
  all_goals go_ret
  all_goals exact ⟨ret_bool (by rw [← idxF_any]; simp), by (repeat' (first | exact Below.refl _ _ | assumption | refine Below.setCell ?_ ?_ _ | refine Below.drew ?_ | refine Below.alloc ?_ ?_ _ | refine Below.trans ?_ (Below.mono (by assumption) ?_) | (simp; done) | (simp; omega) | omega))⟩

set_option maxRecDepth 100000 in
set_option maxHeartbeats 4000000 in
theorem c_impl_areRequests (d : Int) (A : Option Addr) (xs : List (Int × Int)) (cap : Nat) (B : Option Addr) (rs : List Int) (capr : Nat) (p : Int) (w : World) (hx : Rds cIv 2 w A xs) (hn : xs.length ≤ 9223372036854775807) (hr : Rds cIn 1 w B rs) (hnr : rs.length ≤ 9223372036854775807) :
    Calls Try.prog 63 #[.agg #[.int .i64 d, .slice A xs.length cap], .slice B rs.length capr, .int .i64 p] w fun e w' => e = .returned (.bool (reqB d xs rs p)) ∧ Below w.heap.size w w' := by
  by_cases hs0 : brB d xs = true
  rotate_left
  · have hn0 : brB d xs = false := Bool.eq_false_iff.2 hs0
    have HV := hid (reqB_no1 (rs := rs) (p := p) hn0)
    clear hs0
    go_enter Try.func63, Try.ntmps63
    go_wp2_with (first | (go_at_call 17; refine (c_impl_IsValidBridge _ _ _ _ _ (by first | assumption | exact Rds.below hx (by (repeat' (first | exact Below.refl _ _ | assumption | refine Below.setCell ?_ ?_ _ | refine Below.drew ?_ | refine Below.alloc ?_ ?_ _ | refine Below.trans ?_ (Below.mono (by assumption) ?_) | (simp; done) | (simp; omega) | omega)))) (by omega)).mono ?_; rintro e w' ⟨rfl, hb⟩; have hc := cellOf hb; have hf := frozOf hb; have hz := sizeOf hb; try simp at hz) | (go_at_call 53; refine (c_impl_inside _ _ _ _ ).mono ?_; rintro e w' ⟨rfl, hb⟩; have hc := cellOf hb; have hf := frozOf hb; have hz := sizeOf hb; try simp at hz))
    all_goals go_ret
    all_goals exact ⟨by first | (rw [HV.out]; done) | (rw [HV.out]; rfl), by (repeat' (first | exact Below.refl _ _ | assumption | refine Below.setCell ?_ ?_ _ | refine Below.drew ?_ | refine Below.alloc ?_ ?_ _ | refine Below.trans ?_ (Below.mono (by assumption) ?_) | (simp; done) | (simp; omega) | omega))⟩
  by_cases hs1 : rs.length ≤ 8
  rotate_left
  · have HV := hid (reqB_no2 (d := d) (xs := xs) (p := p) hs1)
    go_enter Try.func63, Try.ntmps63
    go_wp2_with (first | (go_at_call 17; refine (c_impl_IsValidBridge _ _ _ _ _ (by first | assumption | exact Rds.below hx (by (repeat' (first | exact Below.refl _ _ | assumption | refine Below.setCell ?_ ?_ _ | refine Below.drew ?_ | refine Below.alloc ?_ ?_ _ | refine Below.trans ?_ (Below.mono (by assumption) ?_) | (simp; done) | (simp; omega) | omega)))) (by omega)).mono ?_; rintro e w' ⟨rfl, hb⟩; have hc := cellOf hb; have hf := frozOf hb; have hz := sizeOf hb; try simp at hz) | (go_at_call 53; refine (c_impl_inside _ _ _ _ ).mono ?_; rintro e w' ⟨rfl, hb⟩; have hc := cellOf hb; have hf := frozOf hb; have hz := sizeOf hb; try simp at hz))
    all_goals go_ret
    all_goals exact ⟨by first | (rw [HV.out]; done) | (rw [HV.out]; rfl), by (repeat' (first | exact Below.refl _ _ | assumption | refine Below.setCell ?_ ?_ _ | refine Below.drew ?_ | refine Below.alloc ?_ ?_ _ | refine Below.trans ?_ (Below.mono (by assumption) ?_) | (simp; done) | (simp; omega) | omega))⟩
  by_cases hs2 : inB p 0 120 = true
  rotate_left
  · have hn2 : inB p 0 120 = false := Bool.eq_false_iff.2 hs2
    have HV := hid (reqB_no3 (d := d) (xs := xs) (rs := rs) hn2)
    clear hs2
    go_enter Try.func63, Try.ntmps63
    go_wp2_with (first | (go_at_call 17; refine (c_impl_IsValidBridge _ _ _ _ _ (by first | assumption | exact Rds.below hx (by (repeat' (first | exact Below.refl _ _ | assumption | refine Below.setCell ?_ ?_ _ | refine Below.drew ?_ | refine Below.alloc ?_ ?_ _ | refine Below.trans ?_ (Below.mono (by assumption) ?_) | (simp; done) | (simp; omega) | omega)))) (by omega)).mono ?_; rintro e w' ⟨rfl, hb⟩; have hc := cellOf hb; have hf := frozOf hb; have hz := sizeOf hb; try simp at hz) | (go_at_call 53; refine (c_impl_inside _ _ _ _ ).mono ?_; rintro e w' ⟨rfl, hb⟩; have hc := cellOf hb; have hf := frozOf hb; have hz := sizeOf hb; try simp at hz))
    all_goals go_ret
    all_goals exact ⟨by first | (rw [HV.out]; done) | (rw [HV.out]; rfl), by (repeat' (first | exact Below.refl _ _ | assumption | refine Below.setCell ?_ ?_ _ | refine Below.drew ?_ | refine Below.alloc ?_ ?_ _ | refine Below.trans ?_ (Below.mono (by assumption) ?_) | (simp; done) | (simp; omega) | omega))⟩
  have HV := hid (show reqB d xs rs p = (sortB rs && !(rs.any noMin)) by simp [reqB, hs0, hs2, req_split, hs1])
  by_cases h1 : sortB rs = true
  · by_cases h2 : rs.any noMin = true
    · rw [h1, h2] at HV
      go_enter Try.func63, Try.ntmps63
      go_wp2_with (first | (first | (go_at_call 17; refine (c_impl_IsValidBridge _ _ _ _ _ (by first | assumption | exact Rds.below hx (by (repeat' (first | exact Below.refl _ _ | assumption | refine Below.setCell ?_ ?_ _ | refine Below.drew ?_ | refine Below.alloc ?_ ?_ _ | refine Below.trans ?_ (Below.mono (by assumption) ?_) | (simp; done) | (simp; omega) | omega)))) (by omega)).mono ?_; rintro e w' ⟨rfl, hb⟩; have hc := cellOf hb; have hf := frozOf hb; have hz := sizeOf hb; try simp at hz) | (go_at_call 53; refine (c_impl_inside _ _ _ _ ).mono ?_; rintro e w' ⟨rfl, hb⟩; have hc := cellOf hb; have hf := frozOf hb; have hz := sizeOf hb; try simp at hz)) | (go_at_call 86; refine (c_sorted _ _ _ _ (by first | assumption | exact Rds.below hr (by (repeat' (first | exact Below.refl _ _ | assumption | refine Below.setCell ?_ ?_ _ | refine Below.drew ?_ | refine Below.alloc ?_ ?_ _ | refine Below.trans ?_ (Below.mono (by assumption) ?_) | (simp; done) | (simp; omega) | omega)))) (by omega)).mono ?_; rintro e w' ⟨rfl, hb⟩; have hc := cellOf hb; have hf := frozOf hb; have hz := sizeOf hb; try simp at hz) | (go_at_call 64; refine (c_has_req _ _ _ _ (by first | assumption | exact Rds.below hr (by (repeat' (first | exact Below.refl _ _ | assumption | refine Below.setCell ?_ ?_ _ | refine Below.drew ?_ | refine Below.alloc ?_ ?_ _ | refine Below.trans ?_ (Below.mono (by assumption) ?_) | (simp; done) | (simp; omega) | omega)))) (by omega)).mono ?_; rintro e w' ⟨rfl, hb⟩; have hc := cellOf hb; have hf := frozOf hb; have hz := sizeOf hb; try simp at hz))
      all_goals go_ret
      all_goals exact ⟨ret_bool (by rw [HV.out]; simp), by (repeat' (first | exact Below.refl _ _ | assumption | refine Below.setCell ?_ ?_ _ | refine Below.drew ?_ | refine Below.alloc ?_ ?_ _ | refine Below.trans ?_ (Below.mono (by assumption) ?_) | (simp; done) | (simp; omega) | omega))⟩
    · have h3 : rs.any noMin = false := by simpa using h2
      clear h2
      rw [h1, h3] at HV
      go_enter Try.func63, Try.ntmps63
      go_wp2_with (first | (first | (go_at_call 17; refine (c_impl_IsValidBridge _ _ _ _ _ (by first | assumption | exact Rds.below hx (by (repeat' (first | exact Below.refl _ _ | assumption | refine Below.setCell ?_ ?_ _ | refine Below.drew ?_ | refine Below.alloc ?_ ?_ _ | refine Below.trans ?_ (Below.mono (by assumption) ?_) | (simp; done) | (simp; omega) | omega)))) (by omega)).mono ?_; rintro e w' ⟨rfl, hb⟩; have hc := cellOf hb; have hf := frozOf hb; have hz := sizeOf hb; try simp at hz) | (go_at_call 53; refine (c_impl_inside _ _ _ _ ).mono ?_; rintro e w' ⟨rfl, hb⟩; have hc := cellOf hb; have hf := frozOf hb; have hz := sizeOf hb; try simp at hz)) | (go_at_call 86; refine (c_sorted _ _ _ _ (by first | assumption | exact Rds.below hr (by (repeat' (first | exact Below.refl _ _ | assumption | refine Below.setCell ?_ ?_ _ | refine Below.drew ?_ | refine Below.alloc ?_ ?_ _ | refine Below.trans ?_ (Below.mono (by assumption) ?_) | (simp; done) | (simp; omega) | omega)))) (by omega)).mono ?_; rintro e w' ⟨rfl, hb⟩; have hc := cellOf hb; have hf := frozOf hb; have hz := sizeOf hb; try simp at hz) | (go_at_call 64; refine (c_has_req _ _ _ _ (by first | assumption | exact Rds.below hr (by (repeat' (first | exact Below.refl _ _ | assumption | refine Below.setCell ?_ ?_ _ | refine Below.drew ?_ | refine Below.alloc ?_ ?_ _ | refine Below.trans ?_ (Below.mono (by assumption) ?_) | (simp; done) | (simp; omega) | omega)))) (by omega)).mono ?_; rintro e w' ⟨rfl, hb⟩; have hc := cellOf hb; have hf := frozOf hb; have hz := sizeOf hb; try simp at hz))
      all_goals go_ret
      all_goals exact ⟨ret_bool (by rw [HV.out]; simp), by (repeat' (first | exact Below.refl _ _ | assumption | refine Below.setCell ?_ ?_ _ | refine Below.drew ?_ | refine Below.alloc ?_ ?_ _ | refine Below.trans ?_ (Below.mono (by assumption) ?_) | (simp; done) | (simp; omega) | omega))⟩
  · have h3 : sortB rs = false := by simpa using h1
    clear h1
    rw [h3, Bool.false_and] at HV
    go_enter Try.func63, Try.ntmps63
    go_wp2_with (first | (first | (go_at_call 17; refine (c_impl_IsValidBridge _ _ _ _ _ (by first | assumption | exact Rds.below hx (by (repeat' (first | exact Below.refl _ _ | assumption | refine Below.setCell ?_ ?_ _ | refine Below.drew ?_ | refine Below.alloc ?_ ?_ _ | refine Below.trans ?_ (Below.mono (by assumption) ?_) | (simp; done) | (simp; omega) | omega)))) (by omega)).mono ?_; rintro e w' ⟨rfl, hb⟩; have hc := cellOf hb; have hf := frozOf hb; have hz := sizeOf hb; try simp at hz) | (go_at_call 53; refine (c_impl_inside _ _ _ _ ).mono ?_; rintro e w' ⟨rfl, hb⟩; have hc := cellOf hb; have hf := frozOf hb; have hz := sizeOf hb; try simp at hz)) | (go_at_call 86; refine (c_sorted _ _ _ _ (by first | assumption | exact Rds.below hr (by (repeat' (first | exact Below.refl _ _ | assumption | refine Below.setCell ?_ ?_ _ | refine Below.drew ?_ | refine Below.alloc ?_ ?_ _ | refine Below.trans ?_ (Below.mono (by assumption) ?_) | (simp; done) | (simp; omega) | omega)))) (by omega)).mono ?_; rintro e w' ⟨rfl, hb⟩; have hc := cellOf hb; have hf := frozOf hb; have hz := sizeOf hb; try simp at hz) | (go_at_call 64; refine (c_has_req _ _ _ _ (by first | assumption | exact Rds.below hr (by (repeat' (first | exact Below.refl _ _ | assumption | refine Below.setCell ?_ ?_ _ | refine Below.drew ?_ | refine Below.alloc ?_ ?_ _ | refine Below.trans ?_ (Below.mono (by assumption) ?_) | (simp; done) | (simp; omega) | omega)))) (by omega)).mono ?_; rintro e w' ⟨rfl, hb⟩; have hc := cellOf hb; have hf := frozOf hb; have hz := sizeOf hb; try simp at hz))
    all_goals go_ret
    all_goals exact ⟨ret_bool (by rw [HV.out]), by (repeat' (first | exact Below.refl _ _ | assumption | refine Below.setCell ?_ ?_ _ | refine Below.drew ?_ | refine Below.alloc ?_ ?_ _ | refine Below.trans ?_ (Below.mono (by assumption) ?_) | (simp; done) | (simp; omega) | omega))⟩

end Go.Proofs.Yteciijnpfapmhaa
