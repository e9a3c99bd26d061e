import Derived.Test.YteciijnpfapmhaaG7e
import Derived.Test.YteciijnpfapmhaaG7t
namespace Go.Proofs.Yteciijnpfapmhaa
set_option linter.unusedSimpArgs false
set_option linter.unusedVariables false
open Go.RowKit

def FreshBr (B : Nat) (d : Int) (xs : List (Int × Int)) (v : Value) (w : World) : Prop := ∃ g, v = .agg #[.int .i64 d, .slice (some ⟨g, 0, none⟩) xs.length xs.length] ∧ B ≤ g ∧ OwnS cIv 2 50 w g xs.length xs
theorem FreshBr.stable {B : Nat} {d : Int} {xs : List (Int × Int)} : Stable (FreshBr B d xs) := fun _ _ _ h hb => by
  obtain ⟨g, h1, h2, h3⟩ := h
  exact ⟨g, h1, h2, h3.below hb⟩
set_option maxHeartbeats 2000000 in
theorem c_laws_toBridge (d : Int) (A : Option Addr) (xs : List (Int × Int)) (cap : Nat) (w : World) (hx : Rds cIv 2 w A xs) (hn : xs.length ≤ 1048576) :
    Calls Try.prog 16 #[.agg #[.int .i64 d, .slice A xs.length cap]] w fun e w' => ∃ g, e = .returned (.agg #[.int .i64 d, .slice (some ⟨g, 0, none⟩) xs.length xs.length]) ∧ w.heap.size ≤ g ∧ OwnS cIv 2 50 w' g xs.length xs ∧ Below w.heap.size w w' := by
  go_enter Try.func16, Try.ntmps16
  go_wp2_with (go_at_call 51; refine (c_laws_toIntervalS _ _ _ _ (by first | assumption | exact Rds.below hx (by (repeat' (first | exact Below.refl _ _ | assumption | refine Below.setCell ?_ ?_ _ | refine Below.drew ?_ | refine Below.alloc ?_ ?_ _ | refine Below.trans ?_ (Below.mono (by assumption) ?_) | (simp; done) | (simp; omega) | omega)))) (by omega)).mono ?_; rintro e W1 ⟨g, rfl, hg, ho, hb⟩; have hlo := ho.lt; have HO := hid ho; clear ho; have hc := cellOf hb; have hf := frozOf hb; have hz := sizeOf hb; (try simp at hz); (try simp at hg))
  refine bodyPost_ret (v := .agg #[.int .i64 d, .slice (some ⟨g, 0, none⟩) xs.length xs.length]) ?_ rfl ⟨g, rfl, by omega, ?_, by (repeat' (first | exact Below.refl _ _ | assumption | refine Below.setCell ?_ ?_ _ | refine Below.drew ?_ | refine Below.alloc ?_ ?_ _ | refine Below.trans ?_ (Below.mono (by assumption) ?_) | (simp; done) | (simp; omega) | omega))⟩
  · simp [results, Try.results16, go_sem, ↓IntWalk.iteOmega, *]
  · repeat' (refine OwnS.set_far ?_ (by simp; omega) _)
    exact HO.out
set_option maxHeartbeats 2000000 in
theorem c_laws_eqBridge (d d' : Int) (A A' : Option Addr) (xs ys : List (Int × Int)) (cap cap' : Nat) (w : World) (hx : Rds cIv 2 w A xs) (hy : Rds cIv 2 w A' ys) (hn : xs.length ≤ 9223372036854775807) (hn' : ys.length ≤ 9223372036854775807) :
    Calls Try.prog 18 #[.agg #[.int .i64 d, .slice A xs.length cap], .agg #[.int .i64 d', .slice A' ys.length cap']] w fun e w' => e = .returned (.bool (decide (d = d' ∧ xs = ys))) ∧ Below w.heap.size w w' := by
  by_cases hd : d = d'
  · subst hd
    by_cases hxy : xs = ys
    · have H := hid (show decide (xs = ys) = true by simpa using hxy)
      have HV := hid (show decide (d = d ∧ xs = ys) = true by simpa using hxy)
      clear hxy
      go_enter Try.func18, Try.ntmps18
      go_wp2_with (go_at_call 54; refine (c_laws_eqIntervalS _ _ _ _ _ _ _ (by first | assumption | exact Rds.below hx (by (repeat' (first | exact Below.refl _ _ | assumption | refine Below.setCell ?_ ?_ _ | refine Below.drew ?_ | refine Below.alloc ?_ ?_ _ | refine Below.trans ?_ (Below.mono (by assumption) ?_) | (simp; done) | (simp; omega) | omega)))) (by first | assumption | exact Rds.below hy (by (repeat' (first | exact Below.refl _ _ | assumption | refine Below.setCell ?_ ?_ _ | refine Below.drew ?_ | refine Below.alloc ?_ ?_ _ | refine Below.trans ?_ (Below.mono (by assumption) ?_) | (simp; done) | (simp; omega) | omega)))) hn hn').mono ?_; rw [H.out]; rintro e w' ⟨rfl, hb⟩)
      go_ret
      exact ⟨by first | (rw [HV.out]; done) | (rw [HV.out]; rfl), by (repeat' (first | exact Below.refl _ _ | assumption | refine Below.setCell ?_ ?_ _ | refine Below.drew ?_ | refine Below.alloc ?_ ?_ _ | refine Below.trans ?_ (Below.mono (by assumption) ?_) | (simp; done) | (simp; omega) | omega))⟩
    · have H := hid (show decide (xs = ys) = false by simpa using hxy)
      have HV := hid (show decide (d = d ∧ xs = ys) = false by simpa using hxy)
      clear hxy
      go_enter Try.func18, Try.ntmps18
      go_wp2_with (go_at_call 54; refine (c_laws_eqIntervalS _ _ _ _ _ _ _ (by first | assumption | exact Rds.below hx (by (repeat' (first | exact Below.refl _ _ | assumption | refine Below.setCell ?_ ?_ _ | refine Below.drew ?_ | refine Below.alloc ?_ ?_ _ | refine Below.trans ?_ (Below.mono (by assumption) ?_) | (simp; done) | (simp; omega) | omega)))) (by first | assumption | exact Rds.below hy (by (repeat' (first | exact Below.refl _ _ | assumption | refine Below.setCell ?_ ?_ _ | refine Below.drew ?_ | refine Below.alloc ?_ ?_ _ | refine Below.trans ?_ (Below.mono (by assumption) ?_) | (simp; done) | (simp; omega) | omega)))) hn hn').mono ?_; rw [H.out]; rintro e w' ⟨rfl, hb⟩)
      go_ret
      exact ⟨by first | (rw [HV.out]; done) | (rw [HV.out]; rfl), by (repeat' (first | exact Below.refl _ _ | assumption | refine Below.setCell ?_ ?_ _ | refine Below.drew ?_ | refine Below.alloc ?_ ?_ _ | refine Below.trans ?_ (Below.mono (by assumption) ?_) | (simp; done) | (simp; omega) | omega))⟩
  · have HV := hid (show decide (d = d' ∧ xs = ys) = false by simp [hd])
    go_enter Try.func18, Try.ntmps18
    go_wp2_with (fail)
    go_ret
    exact ⟨by first | (rw [HV.out]; done) | (rw [HV.out]; rfl), by (repeat' (first | exact Below.refl _ _ | assumption | refine Below.setCell ?_ ?_ _ | refine Below.drew ?_ | refine Below.alloc ?_ ?_ _ | refine Below.trans ?_ (Below.mono (by assumption) ?_) | (simp; done) | (simp; omega) | omega))⟩
set_option maxHeartbeats 1000000 in
theorem c_laws_szBridge (d : Int) (A : Option Addr) (n cap : Nat) (left : Int) (w : World) (hl : 0 ≤ left ∧ left ≤ 1048576) (hn : n ≤ 9223372036854775807) :
    Calls Try.prog 14 #[.agg #[.int .i64 d, .slice A n cap], .int .i64 left] w fun e w' => e = .returned (.int .i64 (if left < n then -1 else left - n)) ∧ Below w.heap.size w w' := by
  by_cases h : left < n
  · go_enter Try.func14, Try.ntmps14
    go_wp2_with (go_at_call 49; refine (c_laws_szIntervalS _ _ _ _ _ hl hn).mono ?_; rw [if_pos h]; rintro e w' ⟨rfl, hb⟩)
    go_ret
    exact ⟨by first | rfl | (rw [if_pos (by assumption)]; rfl) | (simp; done), by (repeat' (first | exact Below.refl _ _ | assumption | refine Below.setCell ?_ ?_ _ | refine Below.drew ?_ | refine Below.alloc ?_ ?_ _ | refine Below.trans ?_ (Below.mono (by assumption) ?_) | (simp; done) | (simp; omega) | omega))⟩
  · go_enter Try.func14, Try.ntmps14
    go_wp2_with (go_at_call 49; refine (c_laws_szIntervalS _ _ _ _ _ hl hn).mono ?_; rw [if_neg h]; rintro e w' ⟨rfl, hb⟩)
    go_ret
    exact ⟨by first | rfl | (rw [if_neg (by assumption)]; rfl) | (rw [if_neg (by omega)]; rfl) | (simp; done), by (repeat' (first | exact Below.refl _ _ | assumption | refine Below.setCell ?_ ?_ _ | refine Below.drew ?_ | refine Below.alloc ?_ ?_ _ | refine Below.trans ?_ (Below.mono (by assumption) ?_) | (simp; done) | (simp; omega) | omega))⟩

end Go.Proofs.Yteciijnpfapmhaa
