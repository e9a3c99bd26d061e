import Derived.Test.YtgjbdcalmodhpaaQ1
import Derived.Test.YtgjbdcalmodhpaaF0
namespace Go.Proofs.Ytgjbdcalmodhpaa
set_option linter.unusedSimpArgs false
set_option linter.unusedVariables false
open Go.RowKit

def cmpL : List Int → List Int → Int
  | [], [] => 0
  | [], _ :: _ => -1
  | _ :: _, [] => 1
  | x :: a, y :: b => if x < y then -1 else if y < x then 1 else cmpL a b
theorem cmpL_lex : ∀ a b : List Int, cmpL a b < 0 ↔ lexB a b = true
  | [], [] => by simp [cmpL, lexB]
  | [], _ :: _ => by simp [cmpL, lexB]
  | _ :: _, [] => by simp [cmpL, lexB]
  | x :: a, y :: b => by
    unfold cmpL lexB
    by_cases h1 : x < y
    · simp [h1, show ¬ x = y by omega]
    · by_cases h2 : y < x
      · simp [h1, h2, show ¬ x = y by omega]
      · have e : x = y := by omega
        subst e
        simpa using cmpL_lex a b
set_option maxRecDepth 100000 in
set_option maxHeartbeats 4000000 in
theorem c_compareI (A : Option Addr) (a : List Int) (ca : Nat) (B : Option Addr) (b : List Int) (cb : Nat) (w : World) (hx : Rds cIn 1 w A a) (hn : a.length ≤ 1000) (hy : Rds cIn 1 w B b) (hl : a.length = b.length) :
    Calls Try.prog 76 #[.slice A a.length ca, .slice B b.length cb] w fun e w' => e = .returned (.int .i64 (cmpL a b)) ∧ w' = w := by
  have hl1 : a.length ≤ b.length := by omega
  have hl2 : b.length ≤ a.length := by omega
  have hl3 : ¬ ((a.length : Int) < (b.length : Int)) := by omega
  clear hl
  go_enter Try.func76, Try.ntmps76
  go_wp2_with (fail)
  go_loopw [11] (fun i wr => ∃ k : Nat, k ≤ a.length ∧ i = .int .i64 k ∧ cmpL (a.drop k) (b.drop k) = cmpL a b ∧ wr = w) (fun i _ => a.length - (intOf i).toNat)
  case atStart => exact ⟨0, Nat.zero_le _, rfl, rfl, rfl⟩
  case round =>
    obtain ⟨k, hk, rfl, he, hw⟩ := hrel
    subst hw
    have HE := hid he
    clear he
    by_cases hlt : k < a.length
    · have hlb : k < b.length := by omega
      obtain ⟨ba, oa, rfl, hba, hca⟩ := hx k a[k] (List.getElem?_eq_getElem hlt)
      obtain ⟨bb, ob, rfl, hbb, hcb⟩ := hy k b[k] (List.getElem?_eq_getElem hlb)
      have ha0 := hca 0 _ rfl
      have hb0 := hcb 0 _ rfl
      simp only [Nat.add_zero, Nat.mul_one] at ha0 hb0
      have HD : Hid (cmpL (a.drop k) (b.drop k) = if a[k] < b[k] then -1 else if b[k] < a[k] then 1 else cmpL (a.drop (k + 1)) (b.drop (k + 1))) := by
        show _ = _
        rw [List.drop_eq_getElem_cons hlt, List.drop_eq_getElem_cons hlb]; rfl
      clear hca hcb hx hy
      generalize a[k] = x at *
      generalize b[k] = y at *
      have hgk : ¬ ((k : Int) ≥ (b.length : Int)) := by omega
      by_cases h1 : x < y
      · have HR : Hid (cmpL a b = -1) := by show _ = _; rw [← HE.out, HD.out, if_pos h1]
        go_wp2_with (go_at_call 91; refine (c_cmpInt _ _ _).mono ?_; rintro e w' ⟨rfl, hw9⟩; rw [hw9]; clear hw9 w')
        go_ret
        exact ⟨ret_int (by first | (rw [HR.out]; done) | (rw [HR.out]; simp [h1])), rfl⟩
      · by_cases h2 : y < x
        · have HR : Hid (cmpL a b = 1) := by show _ = _; rw [← HE.out, HD.out, if_neg h1, if_pos h2]
          have h1' : ¬ x < y := h1
          go_wp2_with (go_at_call 91; refine (c_cmpInt _ _ _).mono ?_; rintro e w' ⟨rfl, hw9⟩; rw [hw9]; clear hw9 w')
          go_ret
          exact ⟨ret_int (by first | (rw [HR.out]; done) | (rw [HR.out]; simp; omega) | (rw [HR.out]; simp [h2])), rfl⟩
        · have HR : Hid (cmpL (a.drop (k + 1)) (b.drop (k + 1)) = cmpL a b) := by show _ = _; rw [← HE.out, HD.out, if_neg h1, if_neg h2]
          go_wp2_with (go_at_call 91; refine (c_cmpInt _ _ _).mono ?_; rintro e w' ⟨rfl, hw9⟩; rw [hw9]; clear hw9 w')
          go_roundw
          case rel => exact ⟨k + 1, by omega, by go_num, HR.out, by first | trivial | rfl⟩
          case measure => simp [intOf]; omega
    · obtain rfl : k = a.length := by omega
      have HZ : Hid (cmpL a b = 0) := by
        show _ = _
        rw [← HE.out, List.drop_length, List.drop_eq_nil_of_le (by omega)]; rfl
      go_wp2_with (fail)
      go_ret
      exact ⟨ret_int HZ.out.symm, rfl⟩
set_option maxRecDepth 100000 in
set_option maxHeartbeats 4000000 in
theorem c_l4Less (A : Option Addr) (a : List Int) (ca : Nat) (B : Option Addr) (b : List Int) (cb : Nat) (w : World) (hx : Rds cIn 1 w A a) (hn : a.length ≤ 1000) (hy : Rds cIn 1 w B b) (hl : a.length = b.length) :
    Calls Try.prog 74 #[.slice A a.length ca, .slice B b.length cb] w fun e w' => e = .returned (.bool (lexB a b)) ∧ Below w.heap.size w w' := by
  have hl1 : a.length ≤ b.length := by omega
  have hl2 : b.length ≤ a.length := by omega
  have hl3 : ¬ ((a.length : Int) < (b.length : Int)) := by omega
  clear hl
  go_enter Try.func74, Try.ntmps74
  go_wp2_with (fail)
  go_loopw [5] (fun i wr => ∃ k : Nat, k ≤ a.length ∧ i = .int .i64 k ∧ lexB (a.drop k) (b.drop k) = lexB a b ∧ Below w.heap.size w wr) (fun i _ => a.length - (intOf i).toNat)
  case atStart => exact ⟨0, Nat.zero_le _, rfl, rfl, Below.refl _ _⟩
  case round =>
    obtain ⟨k, hk, rfl, he, hbr⟩ := hrel
    have HE := hid he
    clear he
    by_cases hlt : k < a.length
    · have hlb : k < b.length := by omega
      obtain ⟨ba, oa, rfl, hba, hca⟩ := hx k a[k] (List.getElem?_eq_getElem hlt)
      obtain ⟨bb, ob, rfl, hbb, hcb⟩ := hy k b[k] (List.getElem?_eq_getElem hlb)
      have ha0 : wr.cell? ⟨ba, oa + k, none⟩ = some (.int .i64 a[k]) := by have := hca 0 _ rfl; simp only [Nat.add_zero, Nat.mul_one] at this; exact (hbr.cell (p := ⟨ba, _, none⟩) hba).trans this
      have hb0 : wr.cell? ⟨bb, ob + k, none⟩ = some (.int .i64 b[k]) := by have := hcb 0 _ rfl; simp only [Nat.add_zero, Nat.mul_one] at this; exact (hbr.cell (p := ⟨bb, _, none⟩) hbb).trans this
      have HD : Hid (lexB (a.drop k) (b.drop k) = if a[k] = b[k] then lexB (a.drop (k + 1)) (b.drop (k + 1)) else decide (a[k] < b[k])) := by
        show _ = _
        rw [List.drop_eq_getElem_cons hlt, List.drop_eq_getElem_cons hlb]; rfl
      clear hca hcb hx hy
      generalize a[k] = x at *
      generalize b[k] = y at *
      have hkb : (k : Int) < (b.length : Int) := by omega
      by_cases h1 : x = y
      · go_wp2_with (fail)
        go_region_held3 (fun q => q.cell? ⟨ba, oa + k, none⟩ = some (.int .i64 x) ∧ q.cell? ⟨bb, ob + k, none⟩ = some (.int .i64 y)) (first | assumption | exact ⟨ha0, hb0⟩) (fail)
        go_wp2_with (fail)
        go_roundw
        case rel => exact ⟨k + 1, by omega, by go_num, by rw [← HE.out, HD.out, if_pos h1], by (repeat' (first | exact Below.refl _ _ | assumption | refine Below.setCell ?_ ?_ _ | refine Below.drew ?_ | refine Below.alloc ?_ ?_ _ | refine Below.trans ?_ (Below.mono (by assumption) ?_) | (simp; done) | (simp; omega) | omega))⟩
        case measure => simp [intOf]; omega
      · go_wp2_with (fail)
        go_region_held3 (fun q => q.cell? ⟨ba, oa + k, none⟩ = some (.int .i64 x) ∧ q.cell? ⟨bb, ob + k, none⟩ = some (.int .i64 y)) (first | assumption | exact ⟨ha0, hb0⟩) (fail)
        go_wp2_with (fail)
        go_region_held3 (fun q => q.cell? ⟨ba, oa + k, none⟩ = some (.int .i64 x) ∧ q.cell? ⟨bb, ob + k, none⟩ = some (.int .i64 y)) (first | assumption | exact ⟨ha0, hb0⟩) (fail)
        go_wp2_with (fail)
        go_ret
        exact ⟨ret_bool (by rw [← HE.out, HD.out, if_neg h1]), by (repeat' (first | exact Below.refl _ _ | assumption | refine Below.setCell ?_ ?_ _ | refine Below.drew ?_ | refine Below.alloc ?_ ?_ _ | refine Below.trans ?_ (Below.mono (by assumption) ?_) | (simp; done) | (simp; omega) | omega))⟩
    · obtain rfl : k = a.length := by omega
      have HZ : Hid (lexB a b = false) := by
        show _ = _
        rw [← HE.out, List.drop_length, List.drop_eq_nil_of_le (by omega)]; rfl
      have hkb : (a.length : Int) = (b.length : Int) := by omega
      go_wp2_with (fail)
      go_ret
      exact ⟨ret_bool (by rw [HZ.out]), by (repeat' (first | exact Below.refl _ _ | assumption | refine Below.setCell ?_ ?_ _ | refine Below.drew ?_ | refine Below.alloc ?_ ?_ _ | refine Below.trans ?_ (Below.mono (by assumption) ?_) | (simp; done) | (simp; omega) | omega))⟩

end Go.Proofs.Ytgjbdcalmodhpaa
