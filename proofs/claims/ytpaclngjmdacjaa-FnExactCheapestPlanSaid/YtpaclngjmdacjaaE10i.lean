import Derived.Test.YtpaclngjmdacjaaE10
import Derived.Test.YtpaclngjmdacjaaC1
namespace Go.Proofs.Ytpaclngjmdacjaa
set_option linter.unusedSimpArgs false
set_option linter.unusedVariables false
open Go.RowKit

set_option maxHeartbeats 400000 in
theorem c_impl_firstUnsafe_1 (x l h : Int) (bp : Nat) (w : World) (hbp0 : w.cell? ⟨bp, 0, none⟩ = some (.int .i64 (l))) (hbp1 : w.cell? ⟨bp, 1, none⟩ = some (.int .i64 (h))) (hlbp : bp < w.heap.size) :
    Calls Try.prog 81 #[.int .i64 (x), .pointer (some ⟨bp, 0, none⟩)] w fun e w' => e = .returned (.bool (!inB x l h)) ∧ Below w.heap.size w w' := by
  go_enter Try.func81, Try.ntmps81
  go_wp2_with (first | (go_at_call 61; refine (c_impl_inside _ _ _ _ ).mono ?_; rintro e w' ⟨rfl, hb⟩; have hc := cellOf hb; have hf := frozOf hb; have hz := sizeOf hb; try simp at hz))
  all_goals go_ret
  all_goals
    refine ⟨ret_bool ?_, ?_⟩
    · first | rfl | omega | (simp []; done) | (simp []; omega) | (simp []; (repeat' split) <;> (first | omega | (simp; done) | (simp; omega))) | (simp_all []; done) | (simp_all []; omega)
    · (repeat' (first | exact Below.refl _ _ | assumption | refine Below.setCell ?_ ?_ _ | refine Below.drew ?_ | refine Below.alloc ?_ ?_ _ | refine Below.trans ?_ (Below.mono (by assumption) ?_) | (simp; done) | (simp; omega) | omega))

set_option maxHeartbeats 2000000 in
theorem c_idx_uns (A : Option Addr) (xs : List (Int)) (cap : Nat) (l h : Int) (bp : Nat) (w : World) (h0 : Rds cIn 1 w A xs) (hn : xs.length ≤ 9223372036854775807) (hbp0 : w.cell? ⟨bp, 0, none⟩ = some (.int .i64 (l))) (hbp1 : w.cell? ⟨bp, 1, none⟩ = some (.int .i64 (h))) (hlbp : bp < w.heap.size) :
    Calls Try.prog 80 #[.slice A xs.length cap, .func (.func 81) #[] #[.pointer (some ⟨bp, 0, none⟩)]] w fun e w' => e = .returned (.int .i64 (idxF (outL l h) xs)) ∧ Below w.heap.size w w' := by
  go_enter Try.func80, Try.ntmps80
  go_wp2_with (fail)
  go_loopw [5, 8] (fun _ i wr => ∃ k : Nat, k ≤ xs.length ∧ i = .int .i64 k ∧ (xs.take k).any (outL l h) = false ∧ Below w.heap.size w wr) (fun _ i _ => xs.length - (intOf i).toNat)
  case atStart => exact ⟨0, Nat.zero_le _, rfl, rfl, Below.refl _ _⟩
  case round =>
    obtain ⟨k, hk, rfl, hl, hbr⟩ := hrel
    have HT := hid hl
    clear hl
    by_cases hlt : k < xs.length
    · obtain ⟨bx, ox, rfl, hbx, hcx⟩ := h0 k xs[k] (List.getElem?_eq_getElem hlt)
      have hx0 := hcx 0 _ rfl
      simp only [Nat.add_zero, Nat.mul_one] at hx0
      clear hcx h0
      skip
      have HS := hid (any_snoc (outL l h) xs k hlt)
      have HH := hid (fun hp => idxF_hit (p := (outL l h)) (xs := xs) HT.out hlt hp)
      obtain ⟨x, hxk⟩ : ∃ x, x = xs[k] := ⟨_, rfl⟩
      simp only [← hxk] at hx0 HS HH
      clear hxk
      have hc := cellOf hbr
      have hf := frozOf hbr
      have hz := sizeOf hbr
      have mbp0 : wr.cell? ⟨bp, 0, none⟩ = some (.int .i64 (l)) := by rw [hc, if_pos hlbp]; exact hbp0
      have mbp1 : wr.cell? ⟨bp, 1, none⟩ = some (.int .i64 (h)) := by rw [hc, if_pos hlbp]; exact hbp1
      have mlbp : bp < wr.heap.size := by omega
      by_cases hp : (outL l h) x = true
      · have HP := hid hp
        have hp' := hp
        simp only [outL, Bool.not_eq_true', Bool.not_eq_false'] at hp'
        clear hp
        go_wp2_with (go_at_call 81; refine (c_impl_firstUnsafe_1 _ l h bp _ mbp0 mbp1 mlbp).mono ?_; rintro e w2 ⟨rfl, hb2⟩)
        go_ret
        exact ⟨ret_int (HH.out HP.out).symm, by (repeat' (first | exact Below.refl _ _ | assumption | refine Below.setCell ?_ ?_ _ | refine Below.drew ?_ | refine Below.alloc ?_ ?_ _ | refine Below.trans ?_ (Below.mono (by assumption) ?_) | (simp; done) | (simp; omega) | omega))⟩
      · have HP : Hid ((outL l h) x = false) := by show _ = _; simpa using hp
        have hp' := HP.out
        simp only [outL, Bool.not_eq_true', Bool.not_eq_false'] at hp'
        clear hp
        go_wp2_with (go_at_call 81; refine (c_impl_firstUnsafe_1 _ l h bp _ mbp0 mbp1 mlbp).mono ?_; rintro e w2 ⟨rfl, hb2⟩)
        go_roundw
        case rel => exact ⟨k + 1, by omega, by go_num, by rw [HS.out, HT.out, HP.out]; rfl, by (repeat' (first | exact Below.refl _ _ | assumption | refine Below.setCell ?_ ?_ _ | refine Below.drew ?_ | refine Below.alloc ?_ ?_ _ | refine Below.trans ?_ (Below.mono (by assumption) ?_) | (simp; done) | (simp; omega) | omega))⟩
        case measure => simp [intOf]; omega
    · obtain rfl : k = xs.length := by omega
      have HN := hid (idxF_none (p := (outL l h)) (xs := xs) (by have := HT.out; rwa [List.take_length] at this))
      go_wp2_with (fail)
      go_ret
      exact ⟨ret_int HN.out.symm, by (repeat' (first | exact Below.refl _ _ | assumption | refine Below.setCell ?_ ?_ _ | refine Below.drew ?_ | refine Below.alloc ?_ ?_ _ | refine Below.trans ?_ (Below.mono (by assumption) ?_) | (simp; done) | (simp; omega) | omega))⟩

set_option maxHeartbeats 2000000 in
theorem c_impl_firstUnsafe (l h v : Int) (A : Option Addr) (fs : List Int) (capf : Nat) (B : Option Addr) (ps : List (Int × Int × Int)) (capq : Nat) (D : Option Addr) (ys : List Int) (n capy : Nat) (w : World) (hr : Rds cIn 1 w D ys) (hnl : ys.length = n) (hnr : ys.length ≤ 9223372036854775807) :
    Calls Try.prog 57 #[.agg #[.int .i64 l, .int .i64 h, .int .i64 v, .slice A fs.length capf, .slice B ps.length capq], .slice D n capy] w fun e w' => e = .returned (.int .i64 (idxF (outL l h) ys)) ∧ Below w.heap.size w w' := by
  subst hnl
  go_enter Try.func57, Try.ntmps57
  go_wp2_with (go_at_call 80; refine (c_idx_uns _ _ _ l h w.heap.size _ (by first | assumption | exact Rds.below hr (by (repeat' (first | exact Below.refl _ _ | assumption | refine Below.setCell ?_ ?_ _ | refine Below.drew ?_ | refine Below.alloc ?_ ?_ _ | refine Below.trans ?_ (Below.mono (by assumption) ?_) | (simp; done) | (simp; omega) | omega)))) (by omega) (by first | assumption | (simp [go_sem, ↓IntWalk.iteOmega, *]; done)) (by first | assumption | (simp [go_sem, ↓IntWalk.iteOmega, *]; done)) (by first | omega | (simp; done) | (simp; omega))).mono ?_; rintro e w' ⟨rfl, hb⟩)
  go_ret
  exact ⟨rfl, by (repeat' (first | exact Below.refl _ _ | assumption | refine Below.setCell ?_ ?_ _ | refine Below.drew ?_ | refine Below.alloc ?_ ?_ _ | refine Below.trans ?_ (Below.mono (by assumption) ?_) | (simp; done) | (simp; omega) | omega))⟩

end Go.Proofs.Ytpaclngjmdacjaa
