import Derived.Test.YtfipmalomhflgaaB1m
namespace Go.Proofs.Ytfipmalomhflgaa
set_option linter.unusedSimpArgs false
set_option linter.unusedVariables false
open Go.RowKit

set_option maxHeartbeats 2000000 in
theorem c_idx_meets (A : Option Addr) (xs : List (Int × Int × Int × Int × Int)) (cap : Nat) (i c l f t : Int) (bp : Nat) (w : World) (h0 : Rds cBer 5 w A xs) (hn : xs.length ≤ 9223372036854775807) (hbp0 : w.cell? ⟨bp, 0, none⟩ = some (.int .i64 (i))) (hbp1 : w.cell? ⟨bp, 1, none⟩ = some (.int .i64 (c))) (hbp2 : w.cell? ⟨bp, 2, none⟩ = some (.int .i64 (l))) (hbp3 : w.cell? ⟨bp, 3, none⟩ = some (.int .i64 (f))) (hbp4 : w.cell? ⟨bp, 4, none⟩ = some (.int .i64 (t))) (hlbp : bp < w.heap.size) (hok : ∀ k (hk : k < xs.length), berP xs[k]) (hab : 0 ≤ c ∧ c ≤ 20 ∧ 1 ≤ l ∧ l ≤ 20 ∧ 0 ≤ f ∧ f < t ∧ t ≤ 500) :
    Calls Try.prog 62 #[.slice A xs.length cap, .func (.func 82) #[] #[.pointer (some ⟨bp, 0, none⟩)]] w fun e w' => e = .returned (.int .i64 (idxF (crash c l f t) xs)) ∧ Below w.heap.size w w' := by
  go_enter Try.func62, Try.ntmps62
  go_wp2_with (fail)
  go_loopw [5, 8] (fun _ i wr => ∃ k : Nat, k ≤ xs.length ∧ i = .int .i64 k ∧ (xs.take k).any (crash c l f t) = false ∧ Below w.heap.size w wr) (fun _ i _ => xs.length - (intOf i).toNat)
  case atStart => exact ⟨0, Nat.zero_le _, rfl, rfl, Below.refl _ _⟩
  case round =>
    obtain ⟨k, hk, rfl, hl, hbr⟩ := hrel
    have HT := hid hl
    clear hl
    by_cases hlt : k < xs.length
    · obtain ⟨bx, ox, rfl, hbx, hcx⟩ := h0 k xs[k] (List.getElem?_eq_getElem hlt)
      have hx0 := hcx 0 _ rfl
      have hx1 := hcx 1 _ rfl
      have hx2 := hcx 2 _ rfl
      have hx3 := hcx 3 _ rfl
      have hx4 := hcx 4 _ rfl
      simp only [Nat.add_zero] at hx0
      clear hcx h0
      have hbx := hok k hlt
      clear hok
      have HS := hid (any_snoc (crash c l f t) xs k hlt)
      have HH := hid (fun hp => idxF_hit (p := (crash c l f t)) (xs := xs) HT.out hlt hp)
      obtain ⟨x, hxk⟩ : ∃ x, x = xs[k] := ⟨_, rfl⟩
      simp only [← hxk] at hx0 hx1 hx2 hx3 hx4 HS HH hbx
      clear hxk
      have hc := cellOf hbr
      have hf := frozOf hbr
      have hz := sizeOf hbr
      have mbp0 : wr.cell? ⟨bp, 0, none⟩ = some (.int .i64 (i)) := by rw [hc, if_pos hlbp]; exact hbp0
      have mbp1 : wr.cell? ⟨bp, 1, none⟩ = some (.int .i64 (c)) := by rw [hc, if_pos hlbp]; exact hbp1
      have mbp2 : wr.cell? ⟨bp, 2, none⟩ = some (.int .i64 (l)) := by rw [hc, if_pos hlbp]; exact hbp2
      have mbp3 : wr.cell? ⟨bp, 3, none⟩ = some (.int .i64 (f)) := by rw [hc, if_pos hlbp]; exact hbp3
      have mbp4 : wr.cell? ⟨bp, 4, none⟩ = some (.int .i64 (t)) := by rw [hc, if_pos hlbp]; exact hbp4
      have mlbp : bp < wr.heap.size := by omega
      unfold berP at hbx
      by_cases hp : (crash c l f t) x = true
      · have HP := hid hp
        have hp' := hp
        simp only [crash] at hp'
        clear hp
        go_wp2_with (go_at_call 82; refine (c_impl_meetsAny_1 _ _ _ _ _ i c l f t bp _ mbp0 mbp1 mbp2 mbp3 mbp4 mlbp (by omega) (by omega) (by omega) (by omega) (by omega) (by omega) (by omega) (by omega) (by omega) (by omega)).mono ?_; rintro e w2 ⟨rfl, hb2⟩)
        go_ret
        exact ⟨ret_int (HH.out HP.out).symm, by (repeat' (first | exact Below.refl _ _ | assumption | refine Below.setCell ?_ ?_ _ | refine Below.drew ?_ | refine Below.alloc ?_ ?_ _ | refine Below.trans ?_ (Below.mono (by assumption) ?_) | (simp; done) | (simp; omega) | omega))⟩
      · have HP : Hid ((crash c l f t) x = false) := by show _ = _; simpa using hp
        have hp' := HP.out
        simp only [crash] at hp'
        clear hp
        go_wp2_with (go_at_call 82; refine (c_impl_meetsAny_1 _ _ _ _ _ i c l f t bp _ mbp0 mbp1 mbp2 mbp3 mbp4 mlbp (by omega) (by omega) (by omega) (by omega) (by omega) (by omega) (by omega) (by omega) (by omega) (by omega)).mono ?_; rintro e w2 ⟨rfl, hb2⟩)
        go_roundw
        case rel => exact ⟨k + 1, by omega, by go_num, by rw [HS.out, HT.out, HP.out]; rfl, by (repeat' (first | exact Below.refl _ _ | assumption | refine Below.setCell ?_ ?_ _ | refine Below.drew ?_ | refine Below.alloc ?_ ?_ _ | refine Below.trans ?_ (Below.mono (by assumption) ?_) | (simp; done) | (simp; omega) | omega))⟩
        case measure => simp [intOf]; omega
    · obtain rfl : k = xs.length := by omega
      have HN := hid (idxF_none (p := (crash c l f t)) (xs := xs) (by have := HT.out; rwa [List.take_length] at this))
      go_wp2_with (fail)
      go_ret
      exact ⟨ret_int HN.out.symm, by (repeat' (first | exact Below.refl _ _ | assumption | refine Below.setCell ?_ ?_ _ | refine Below.drew ?_ | refine Below.alloc ?_ ?_ _ | refine Below.trans ?_ (Below.mono (by assumption) ?_) | (simp; done) | (simp; omega) | omega))⟩

set_option maxHeartbeats 2000000 in
theorem c_has_meets (A : Option Addr) (xs : List (Int × Int × Int × Int × Int)) (cap : Nat) (i c l f t : Int) (bp : Nat) (w : World) (h0 : Rds cBer 5 w A xs) (hn : xs.length ≤ 9223372036854775807) (hbp0 : w.cell? ⟨bp, 0, none⟩ = some (.int .i64 (i))) (hbp1 : w.cell? ⟨bp, 1, none⟩ = some (.int .i64 (c))) (hbp2 : w.cell? ⟨bp, 2, none⟩ = some (.int .i64 (l))) (hbp3 : w.cell? ⟨bp, 3, none⟩ = some (.int .i64 (f))) (hbp4 : w.cell? ⟨bp, 4, none⟩ = some (.int .i64 (t))) (hlbp : bp < w.heap.size) (hok : ∀ k (hk : k < xs.length), berP xs[k]) (hab : 0 ≤ c ∧ c ≤ 20 ∧ 1 ≤ l ∧ l ≤ 20 ∧ 0 ≤ f ∧ f < t ∧ t ≤ 500) :
    Calls Try.prog 81 #[.slice A xs.length cap, .func (.func 82) #[] #[.pointer (some ⟨bp, 0, none⟩)]] w fun e w' => e = .returned (.bool (xs.any (crash c l f t))) ∧ Below w.heap.size w w' := by
  go_enter Try.func81, Try.ntmps81
  go_wp2_with (go_at_call 62; refine (c_idx_meets _ _ _ _ _ _ _ _ _ _ (by assumption) (by assumption) (by assumption) (by assumption) (by assumption) (by assumption) (by assumption) (by assumption) (by assumption) (by assumption)).mono ?_; rintro e w' ⟨rfl, hb⟩)
  all_goals go_ret
  all_goals exact ⟨ret_bool (by rw [← idxF_any]; simp), by (repeat' (first | exact Below.refl _ _ | assumption | refine Below.setCell ?_ ?_ _ | refine Below.drew ?_ | refine Below.alloc ?_ ?_ _ | refine Below.trans ?_ (Below.mono (by assumption) ?_) | (simp; done) | (simp; omega) | omega))⟩

set_option maxHeartbeats 2000000 in
theorem c_impl_meetsAny (A : Option Addr) (xs : List (Int × Int × Int × Int × Int)) (n cap : Nat) (i c l f t : Int) (w : World) (hx : Rds cBer 5 w A xs) (hl : xs.length = n) (hn : xs.length ≤ 9223372036854775807) (hok : ∀ k (hk : k < xs.length), berP xs[k]) (hab : 0 ≤ c ∧ c ≤ 20 ∧ 1 ≤ l ∧ l ≤ 20 ∧ 0 ≤ f ∧ f < t ∧ t ≤ 500) :
    Calls Try.prog 55 #[.slice A n cap, .agg #[.int .i64 i, .int .i64 c, .int .i64 l, .int .i64 f, .int .i64 t]] w fun e w' => e = .returned (.bool (meets xs c l f t)) ∧ Below w.heap.size w w' := by
  subst hl
  have hx' := hx.below ((Below.refl w.heap.size w).alloc (Nat.le_refl _) (.cells #[.int .i64 i, .int .i64 c, .int .i64 l, .int .i64 f, .int .i64 t] 48))
  go_enter Try.func55, Try.ntmps55
  go_wp2_with (go_at_call 81; refine (c_has_meets _ _ _ i c l f t w.heap.size _ hx' (by omega) (by simp [go_sem]) (by simp [go_sem]) (by simp [go_sem]) (by simp [go_sem]) (by simp [go_sem]) (by simp) hok hab).mono ?_; rintro e w' ⟨rfl, hb⟩)
  all_goals go_ret
  all_goals exact ⟨rfl, by (repeat' (first | exact Below.refl _ _ | assumption | refine Below.setCell ?_ ?_ _ | refine Below.drew ?_ | refine Below.alloc ?_ ?_ _ | refine Below.trans ?_ (Below.mono (by assumption) ?_) | (simp; done) | (simp; omega) | omega))⟩

theorem Rds.take {α : Type} {cf : α → List Value} {sz : Nat} {w : World} {A : Option Addr} {xs : List α} (h : Rds cf sz w A xs) (k : Nat) : Rds cf sz w A (xs.take k) := by
  intro i x hx
  refine h i x ?_
  rw [List.getElem?_take] at hx
  split at hx
  · exact hx
  · cases hx

end Go.Proofs.Ytfipmalomhflgaa
