import Derived.Test.YtpaclngjmdacjaaE7e
import Derived.Test.YtpaclngjmdacjaaE7t
import Derived.Test.YtpaclngjmdacjaaE8
namespace Go.Proofs.Ytpaclngjmdacjaa
set_option linter.unusedSimpArgs false
set_option linter.unusedVariables false
open Go.RowKit

def FreshTk (B : Nat) (l h v : Int) (fs : List Int) (ps : List (Int × Int × Int)) (u : Value) (w : World) : Prop := ∃ g k, u = .agg #[.int .i64 l, .int .i64 h, .int .i64 v, .slice (some ⟨g, 0, none⟩) fs.length fs.length, .slice (some ⟨k, 0, none⟩) ps.length ps.length] ∧ B ≤ g ∧ OwnS cIn 1 3 w g fs.length fs ∧ B ≤ k ∧ OwnS cPu 3 71 w k ps.length ps
theorem FreshTk.stable {B : Nat} {l h v : Int} {fs : List Int} {ps : List (Int × Int × Int)} : Stable (FreshTk B l h v fs ps) := fun _ _ _ h hb => by
  obtain ⟨g, k, h1, h2, h3, h4, h5⟩ := h
  exact ⟨g, k, h1, h2, h3.below hb, h4, h5.below hb⟩
set_option maxHeartbeats 4000000 in
theorem c_laws_toPumpTask (l h v : Int) (A : Option Addr) (fs : List Int) (capf : Nat) (B : Option Addr) (ps : List (Int × Int × Int)) (capq : Nat) (w : World) (hx : Rds cIn 1 w A fs) (hn : fs.length ≤ 1048576) (hy : Rds cPu 3 w B ps) (hm : ps.length ≤ 1048576) :
    Calls Try.prog 15 #[.agg #[.int .i64 l, .int .i64 h, .int .i64 v, .slice A fs.length capf, .slice B ps.length capq]] w fun e w' => ∃ g k, e = .returned (.agg #[.int .i64 l, .int .i64 h, .int .i64 v, .slice (some ⟨g, 0, none⟩) fs.length fs.length, .slice (some ⟨k, 0, none⟩) ps.length ps.length]) ∧ w.heap.size ≤ g ∧ OwnS cIn 1 3 w' g fs.length fs ∧ w.heap.size ≤ k ∧ OwnS cPu 3 71 w' k ps.length ps ∧ Below w.heap.size w w' := by
  go_enter Try.func15, Try.ntmps15
  go_wp2_with (first | (go_at_call 16; refine (c_laws_toIntS _ _ _ _ (by first | assumption | exact Rds.below hx (by (repeat' (first | exact Below.refl _ _ | assumption | refine Below.setCell ?_ ?_ _ | refine Below.drew ?_ | refine Below.alloc ?_ ?_ _ | refine Below.trans ?_ (Below.mono (by assumption) ?_) | (simp; done) | (simp; omega) | omega)))) (by omega)).mono ?_; rintro e W1 ⟨g, rfl, hg, ho, hb⟩; have hlo := ho.lt; have HO := hid ho; clear ho; have hc := cellOf hb; have hf := frozOf hb; have hz := sizeOf hb; (try simp at hz); (try simp at hg)) | (go_at_call 51; refine (c_laws_toPumpS _ _ _ _ (by first | assumption | exact Rds.below hy (by (repeat' (first | exact Below.refl _ _ | assumption | refine Below.setCell ?_ ?_ _ | refine Below.drew ?_ | refine Below.alloc ?_ ?_ _ | refine Below.trans ?_ (Below.mono (by assumption) ?_) | (simp; done) | (simp; omega) | omega)))) (by omega)).mono ?_; rintro e W2 ⟨k, rfl, hk, hok, hb2⟩; have hlok := hok.lt; have HOK := hid hok; clear hok; have hc2 := cellOf hb2; have hf2 := frozOf hb2; have hz2 := sizeOf hb2; (try simp at hz2); (try simp at hk)))
  refine bodyPost_ret (v := .agg #[.int .i64 l, .int .i64 h, .int .i64 v, .slice (some ⟨g, 0, none⟩) fs.length fs.length, .slice (some ⟨k, 0, none⟩) ps.length ps.length]) ?_ rfl ⟨g, k, rfl, by omega, ?_, by omega, ?_, by (repeat' (first | exact Below.refl _ _ | assumption | refine Below.setCell ?_ ?_ _ | refine Below.drew ?_ | refine Below.alloc ?_ ?_ _ | refine Below.trans ?_ (Below.mono (by assumption) ?_) | (simp; done) | (simp; omega) | omega))⟩
  · simp [results, Try.results15, go_sem, ↓IntWalk.iteOmega, *]
  · repeat' (refine OwnS.set_far ?_ (by simp; omega) _)
    refine OwnS.below ?_ hb2
    repeat' (refine OwnS.set_far ?_ (by simp; omega) _)
    exact HO.out
  · repeat' (refine OwnS.set_far ?_ (by simp; omega) _)
    exact HOK.out
set_option maxHeartbeats 4000000 in
theorem c_laws_eqPumpTask (l h v l' h' v' : Int) (A A' : Option Addr) (fs fs' : List Int) (cf cf' : Nat) (B B' : Option Addr) (ps ps' : List (Int × Int × Int)) (cq cq' : Nat) (w : World) (hx : Rds cIn 1 w A fs) (hx' : Rds cIn 1 w A' fs') (hy : Rds cPu 3 w B ps) (hy' : Rds cPu 3 w B' ps') (hn : fs.length ≤ 9223372036854775807) (hn' : fs'.length ≤ 9223372036854775807) (hm : ps.length ≤ 9223372036854775807) (hm' : ps'.length ≤ 9223372036854775807) (he : l = l' ∧ h = h' ∧ v = v' ∧ fs = fs' ∧ ps = ps') :
    Calls Try.prog 18 #[.agg #[.int .i64 l, .int .i64 h, .int .i64 v, .slice A fs.length cf, .slice B ps.length cq], .agg #[.int .i64 l', .int .i64 h', .int .i64 v', .slice A' fs'.length cf', .slice B' ps'.length cq']] w fun e w' => e = .returned (.bool true) ∧ Below w.heap.size w w' := by
  obtain ⟨rfl, rfl, rfl, rfl, rfl⟩ := he
  have H1 := hid (show decide (fs = fs) = true by simp)
  have H2 := hid (show decide (ps = ps) = true by simp)
  go_enter Try.func18, Try.ntmps18
  go_wp2_with (first | (go_at_call 19; refine (c_laws_eqIntS _ _ _ _ _ _ _ (by first | assumption | exact Rds.below hx (by (repeat' (first | exact Below.refl _ _ | assumption | refine Below.setCell ?_ ?_ _ | refine Below.drew ?_ | refine Below.alloc ?_ ?_ _ | refine Below.trans ?_ (Below.mono (by assumption) ?_) | (simp; done) | (simp; omega) | omega)))) (by first | assumption | exact Rds.below hx' (by (repeat' (first | exact Below.refl _ _ | assumption | refine Below.setCell ?_ ?_ _ | refine Below.drew ?_ | refine Below.alloc ?_ ?_ _ | refine Below.trans ?_ (Below.mono (by assumption) ?_) | (simp; done) | (simp; omega) | omega)))) hn hn').mono ?_; rintro e w' ⟨rfl, hb⟩; have hc := cellOf hb; have hf := frozOf hb; have hz := sizeOf hb; (try simp at hz)) | (go_at_call 54; refine (c_laws_eqPumpS _ _ _ _ _ _ _ (by first | assumption | exact Rds.below hy (by (repeat' (first | exact Below.refl _ _ | assumption | refine Below.setCell ?_ ?_ _ | refine Below.drew ?_ | refine Below.alloc ?_ ?_ _ | refine Below.trans ?_ (Below.mono (by assumption) ?_) | (simp; done) | (simp; omega) | omega)))) (by first | assumption | exact Rds.below hy' (by (repeat' (first | exact Below.refl _ _ | assumption | refine Below.setCell ?_ ?_ _ | refine Below.drew ?_ | refine Below.alloc ?_ ?_ _ | refine Below.trans ?_ (Below.mono (by assumption) ?_) | (simp; done) | (simp; omega) | omega)))) hm hm').mono ?_; rintro e w' ⟨rfl, hb⟩; have hc := cellOf hb; have hf := frozOf hb; have hz := sizeOf hb; (try simp at hz)))
  go_ret
  exact ⟨rfl, by (repeat' (first | exact Below.refl _ _ | assumption | refine Below.setCell ?_ ?_ _ | refine Below.drew ?_ | refine Below.alloc ?_ ?_ _ | refine Below.trans ?_ (Below.mono (by assumption) ?_) | (simp; done) | (simp; omega) | omega))⟩
set_option maxHeartbeats 2000000 in
theorem c_laws_szPumpTask (l h v : Int) (A : Option Addr) (n capf : Nat) (B : Option Addr) (m capq : Nat) (left : Int) (w : World) (hl : 0 ≤ left ∧ left ≤ 1048576) (hn : n ≤ 9223372036854775807) (hm : m ≤ 9223372036854775807) :
    Calls Try.prog 13 #[.agg #[.int .i64 l, .int .i64 h, .int .i64 v, .slice A n capf, .slice B m capq], .int .i64 left] w fun e w' => e = .returned (.int .i64 (if left < (n : Int) + m then -1 else left - n - m)) ∧ Below w.heap.size w w' := by
  by_cases h1 : left < n
  · go_enter Try.func13, Try.ntmps13
    go_wp2_with (go_at_call 47; refine (c_laws_szIntS _ _ _ _ _ hl hn).mono ?_; rw [if_pos h1]; rintro e w' ⟨rfl, hb⟩; have hc := cellOf hb; have hf := frozOf hb; have hz := sizeOf hb; (try simp at hz))
    go_ret
    exact ⟨by first | rfl | (simp; done) | (rw [if_pos (by omega)]; rfl) | (simp; omega), by (repeat' (first | exact Below.refl _ _ | assumption | refine Below.setCell ?_ ?_ _ | refine Below.drew ?_ | refine Below.alloc ?_ ?_ _ | refine Below.trans ?_ (Below.mono (by assumption) ?_) | (simp; done) | (simp; omega) | omega))⟩
  · by_cases h2 : left - n < m
    · go_enter Try.func13, Try.ntmps13
      go_wp2_with (first | (go_at_call 47; refine (c_laws_szIntS _ _ _ _ _ hl hn).mono ?_; rw [if_neg (by omega)]; rintro e w' ⟨rfl, hb⟩; have hc := cellOf hb; have hf := frozOf hb; have hz := sizeOf hb; (try simp at hz)) | (go_at_call 48; refine (c_laws_szPumpS _ _ _ _ _ (by omega) hm).mono ?_; rw [if_pos h2]; rintro e w' ⟨rfl, hb⟩; have hc := cellOf hb; have hf := frozOf hb; have hz := sizeOf hb; (try simp at hz)))
      go_ret
      exact ⟨by first | rfl | (simp; done) | (rw [if_pos (by omega)]; rfl) | (simp; omega), by (repeat' (first | exact Below.refl _ _ | assumption | refine Below.setCell ?_ ?_ _ | refine Below.drew ?_ | refine Below.alloc ?_ ?_ _ | refine Below.trans ?_ (Below.mono (by assumption) ?_) | (simp; done) | (simp; omega) | omega))⟩
    · go_enter Try.func13, Try.ntmps13
      go_wp2_with (first | (go_at_call 47; refine (c_laws_szIntS _ _ _ _ _ hl hn).mono ?_; rw [if_neg (by omega)]; rintro e w' ⟨rfl, hb⟩; have hc := cellOf hb; have hf := frozOf hb; have hz := sizeOf hb; (try simp at hz)) | (go_at_call 48; refine (c_laws_szPumpS _ _ _ _ _ (by omega) hm).mono ?_; rw [if_neg (by omega)]; rintro e w' ⟨rfl, hb⟩; have hc := cellOf hb; have hf := frozOf hb; have hz := sizeOf hb; (try simp at hz)))
      go_ret
      exact ⟨by first | rfl | (simp; done) | (rw [if_neg (by omega)]; rfl) | (simp; omega), by (repeat' (first | exact Below.refl _ _ | assumption | refine Below.setCell ?_ ?_ _ | refine Below.drew ?_ | refine Below.alloc ?_ ?_ _ | refine Below.trans ?_ (Below.mono (by assumption) ?_) | (simp; done) | (simp; omega) | omega))⟩

end Go.Proofs.Ytpaclngjmdacjaa
