import Derived.Test.YtpaclngjmdacjaaE0
import Derived.Test.YtpaclngjmdacjaaC1
namespace Go.Proofs.Ytpaclngjmdacjaa
set_option linter.unusedSimpArgs false
set_option linter.unusedVariables false
open Go.RowKit

set_option maxHeartbeats 2000000 in
theorem c_spec_l12Runs (C : Option Addr) (pl : List Int) (n capp : Nat) (hh y : Int) (q : Nat) (w : World) (hr : Rds cIn 1 w C pl) (hnl : pl.length = n) (hnr : pl.length ≤ 5) (hq : q ≤ 1) (hy : 0 ≤ y ∧ y ≤ 3) (hcase : (hh = -1 ∧ y = 0) ∨ (∃ k : Nat, hh = (k : Int) ∧ pl[k]? = some y)) :
    Calls Try.prog 76 #[.slice C n capp, .int .i64 hh, .int .i64 q] w fun e w' => e = .returned (.bool (bitB y q)) ∧ Below w.heap.size w w' := by
  subst hnl
  rcases hcase with ⟨rfl, rfl⟩ | ⟨k, rfl, hk⟩
  · have H := hid (show bitB 0 q = false by obtain rfl | rfl : q = 0 ∨ q = 1 := by omega
                                            all_goals decide)
    go_enter Try.func76, Try.ntmps76
    go_wp2_with (fail)
    go_ret
    exact ⟨ret_bool (by rw [H.out]), by (repeat' (first | exact Below.refl _ _ | assumption | refine Below.setCell ?_ ?_ _ | refine Below.drew ?_ | refine Below.alloc ?_ ?_ _ | refine Below.trans ?_ (Below.mono (by assumption) ?_) | (simp; done) | (simp; omega) | omega))⟩
  · obtain ⟨bx, ox, rfl, hbx, hcx⟩ := hr k y hk
    have hx0 := hcx 0 _ rfl
    simp only [Nat.add_zero, Nat.mul_one] at hx0
    have hlt : k < pl.length := by
      rcases Nat.lt_or_ge k pl.length with h | h
      · exact h
      · rw [List.getElem?_eq_none h] at hk; cases hk
    have hb := bits_and hy (q := q) hq
    clear hcx hr hk
    by_cases hbt : bitB y q = true
    · rw [if_pos hbt] at hb
      go_enter Try.func76, Try.ntmps76
      go_wp2_with (fail)
      go_ret
      exact ⟨ret_bool (by simp [hb, hbt]), by (repeat' (first | exact Below.refl _ _ | assumption | refine Below.setCell ?_ ?_ _ | refine Below.drew ?_ | refine Below.alloc ?_ ?_ _ | refine Below.trans ?_ (Below.mono (by assumption) ?_) | (simp; done) | (simp; omega) | omega))⟩
    · rw [if_neg hbt] at hb
      go_enter Try.func76, Try.ntmps76
      go_wp2_with (fail)
      go_ret
      exact ⟨ret_bool (by simp [hb, hbt]), by (repeat' (first | exact Below.refl _ _ | assumption | refine Below.setCell ?_ ?_ _ | refine Below.drew ?_ | refine Below.alloc ?_ ?_ _ | refine Below.trans ?_ (Below.mono (by assumption) ?_) | (simp; done) | (simp; omega) | omega))⟩

set_option maxRecDepth 100000 in
set_option maxHeartbeats 4000000 in
theorem c_spec_l12Out (l h v : Int) (A : Option Addr) (fs : List Int) (capf : Nat) (B : Option Addr) (ps : List (Int × Int × Int)) (capq : Nat) (C : Option Addr) (pl : List Int) (n capp : Nat) (k : Nat) (x : Int) (w : World) (hx : Rds cIn 1 w A fs) (hn : fs.length ≤ 9223372036854775807) (hy : Rds cPu 3 w B ps) (hm : ps.length ≤ 9223372036854775807) (hr : Rds cIn 1 w C pl) (hnl : pl.length = n) (hnr : pl.length ≤ 5) (hpu : ∀ k (hk : k < ps.length), puOk ps[k] = true) (hn2 : ps.length ≤ 2) (hxk : pl[k]? = some x) (hxb : 0 ≤ x ∧ x ≤ 3) :
    Calls Try.prog 50 #[.agg #[.int .i64 l, .int .i64 h, .int .i64 v, .slice A fs.length capf, .slice B ps.length capq], .slice C n capp, .int .i64 k] w fun e w' => e = .returned (.int .i64 (outTo ps x ps.length)) ∧ Below w.heap.size w w' := by
  subst hnl
  have HXK := hid hxk
  clear hxk
  go_enter Try.func50, Try.ntmps50
  go_wp2_with (fail)
  go_loopw [7, 8] (fun s i wr => ∃ q : Nat, q ≤ ps.length ∧ i = .int .i64 q ∧ s = .int .i64 (outTo ps x q) ∧ wr.cell? ⟨w.heap.size, 0, none⟩ = some (.int .i64 l) ∧ wr.cell? ⟨w.heap.size, 1, none⟩ = some (.int .i64 h) ∧ wr.cell? ⟨w.heap.size, 2, none⟩ = some (.int .i64 v) ∧ wr.cell? ⟨w.heap.size, 3, none⟩ = some (.slice A fs.length capf) ∧ wr.cell? ⟨w.heap.size, 4, none⟩ = some (.slice B ps.length capq) ∧ w.heap.size + 1 ≤ wr.heap.size ∧ Below w.heap.size w wr) (fun _ i _ => ps.length - (intOf i).toNat)
  case atStart =>
    refine ⟨0, Nat.zero_le _, rfl, rfl, ?_, ?_, ?_, ?_, ?_, ?_, by (repeat' (first | exact Below.refl _ _ | assumption | refine Below.setCell ?_ ?_ _ | refine Below.drew ?_ | refine Below.alloc ?_ ?_ _ | refine Below.trans ?_ (Below.mono (by assumption) ?_) | (simp; done) | (simp; omega) | omega))⟩
    all_goals first | (simp [go_sem, ↓IntWalk.iteOmega, *]; done) | (simp at *; omega)
  case round =>
    obtain ⟨q, hq, rfl, rfl, hp0, hp1, hp2, hp3, hp4, hzz, hbr⟩ := hrel
    have hc := cellOf hbr
    have hf := frozOf hbr
    have hz := sizeOf hbr
    have hp0' : far _ _ _ = _ := hp0
    have hp1' : far _ _ _ = _ := hp1
    have hp2' : far _ _ _ = _ := hp2
    have hp3' : far _ _ _ = _ := hp3
    have hp4' : far _ _ _ = _ := hp4
    have hob := outTo_bd hpu x q hq
    by_cases hlt : q < ps.length
    · obtain ⟨bp, op_, rfl, hbp, hcp⟩ := hy q ps[q] (List.getElem?_eq_getElem hlt)
      have hg0 := hcp 0 _ rfl
      simp only [Nat.add_zero] at hg0
      have hgb := puOk_bd (hpu q hlt)
      have HO1 := hid (outTo_succ x q hlt)
      have hq1 : q ≤ 1 := by omega
      clear hcp hy
      generalize ps[q] = g at *
      generalize outTo ps x q = ot at *
      by_cases h1 : bitB x q = true
      · rw [if_pos h1] at HO1
        go_wp2_with (first | (go_at_call 76; refine (c_spec_l12Runs _ pl _ _ (k : Int) x q _ (by first | assumption | exact Rds.below hr (by (repeat' (first | exact Below.refl _ _ | assumption | refine Below.setCell ?_ ?_ _ | refine Below.drew ?_ | refine Below.alloc ?_ ?_ _ | refine Below.trans ?_ (Below.mono (by assumption) ?_) | (simp; done) | (simp; omega) | omega)))) rfl (by omega) hq1 hxb (.inr ⟨k, rfl, HXK.out⟩)).mono ?_; rintro e w' ⟨rfl, hb⟩; have hc := cellOf hb; have hf := frozOf hb; have hz := sizeOf hb; try simp at hz))
        go_roundw
        case rel =>
          refine ⟨q + 1, by omega, by go_num, by rw [HO1.out], ?_, ?_, ?_, ?_, ?_, ?_, by (repeat' (first | exact Below.refl _ _ | assumption | refine Below.setCell ?_ ?_ _ | refine Below.drew ?_ | refine Below.alloc ?_ ?_ _ | refine Below.trans ?_ (Below.mono (by assumption) ?_) | (simp; done) | (simp; omega) | omega))⟩
          all_goals first | (simp [go_sem, ↓IntWalk.iteOmega, *]; done) | (simp [go_sem, ↓IntWalk.iteOmega, *]; omega) | omega
        case measure => simp [intOf]; omega
      · have h1f : bitB x q = false := by simpa using h1
        rw [if_neg h1] at HO1
        clear h1
        go_wp2_with (first | (go_at_call 76; refine (c_spec_l12Runs _ pl _ _ (k : Int) x q _ (by first | assumption | exact Rds.below hr (by (repeat' (first | exact Below.refl _ _ | assumption | refine Below.setCell ?_ ?_ _ | refine Below.drew ?_ | refine Below.alloc ?_ ?_ _ | refine Below.trans ?_ (Below.mono (by assumption) ?_) | (simp; done) | (simp; omega) | omega)))) rfl (by omega) hq1 hxb (.inr ⟨k, rfl, HXK.out⟩)).mono ?_; rintro e w' ⟨rfl, hb⟩; have hc := cellOf hb; have hf := frozOf hb; have hz := sizeOf hb; try simp at hz))
        go_roundw
        case rel =>
          refine ⟨q + 1, by omega, by go_num, by rw [HO1.out]; simp, ?_, ?_, ?_, ?_, ?_, ?_, by (repeat' (first | exact Below.refl _ _ | assumption | refine Below.setCell ?_ ?_ _ | refine Below.drew ?_ | refine Below.alloc ?_ ?_ _ | refine Below.trans ?_ (Below.mono (by assumption) ?_) | (simp; done) | (simp; omega) | omega))⟩
          all_goals first | (simp [go_sem, ↓IntWalk.iteOmega, *]; done) | (simp [go_sem, ↓IntWalk.iteOmega, *]; omega) | omega
        case measure => simp [intOf]; omega
    · obtain rfl : q = ps.length := by omega
      go_wp2_with (fail)
      go_ret
      exact ⟨rfl, by (repeat' (first | exact Below.refl _ _ | assumption | refine Below.setCell ?_ ?_ _ | refine Below.drew ?_ | refine Below.alloc ?_ ?_ _ | refine Below.trans ?_ (Below.mono (by assumption) ?_) | (simp; done) | (simp; omega) | omega))⟩

end Go.Proofs.Ytpaclngjmdacjaa
