import Derived.Test.YthlmeofjjmfpnaaS10a
import Derived.Test.YthlmeofjjmfpnaaS8
import Derived.Test.YthlmeofjjmfpnaaT3
namespace Go.Proofs.Ythlmeofjjmfpnaa
set_option linter.unusedSimpArgs false
set_option linter.unusedVariables false
open Go.RowKit

def FS37_4 (a b : Int) (A : Option Addr) (xs : List (Int × Int)) (cap : Nat) (c d : Int) (w W0 : World) (iq : Nat) (v : Value) (w1 : World) : Prop := match iq with
  | 0 => v = .agg #[.int .i64 (a), .int .i64 (b)]
  | 1 => v = .agg #[.int .i64 (c), .int .i64 (d)]
  | 2 => v = .agg #[.int .i64 ((wholeW xs).1), .int .i64 ((wholeW xs).2)]
  | 3 => v = .agg #[.int .i64 (max 0 ((c) - ((wholeW xs).2))), .int .i64 ((d) - ((wholeW xs).1))]
  | 4 => v = .agg #[.int .i64 (max a (max 0 ((c) - ((wholeW xs).2)))), .int .i64 (min b ((d) - ((wholeW xs).1)))]
  | 5 => Fresh W0.heap.size (.cells #[.int .i64 (0), .int .i64 (0)] 25) v w1
  | _ => True

def FS37_5 (a b : Int) (A : Option Addr) (xs : List (Int × Int)) (cap : Nat) (c d : Int) (w W0 : World) (iq : Nat) (v : Value) (w1 : World) : Prop := match iq with
  | 0 => v = .agg #[.int .i64 (c), .int .i64 (d)]
  | 1 => v = .agg #[.int .i64 (a), .int .i64 (b)]
  | 2 => v = .agg #[.int .i64 ((wholeW xs).1), .int .i64 ((wholeW xs).2)]
  | 3 => v = .agg #[.int .i64 (a + ((wholeW xs).1)), .int .i64 (b + ((wholeW xs).2))]
  | 4 => v = .agg #[.int .i64 (max (c) (a + ((wholeW xs).1))), .int .i64 (min (d) (b + ((wholeW xs).2)))]
  | 5 => Fresh W0.heap.size (.cells #[.int .i64 (0), .int .i64 (0)] 25) v w1
  | _ => True

def FS37_4_18 (a b : Int) (A : Option Addr) (xs : List (Int × Int)) (cap : Nat) (c d : Int) (w W0 : World) (iq : Nat) (v : Value) (w1 : World) : Prop := match iq with
  | 0 => v = .agg #[.int .i64 (a), .int .i64 (b)]
  | 1 => v = .agg #[.int .i64 (c), .int .i64 (d)]
  | 2 => v = .agg #[.int .i64 ((wholeW xs).1), .int .i64 ((wholeW xs).2)]
  | 3 => v = .agg #[.int .i64 (max 0 ((c) - ((wholeW xs).2))), .int .i64 ((d) - ((wholeW xs).1))]
  | 4 => v = .agg #[.int .i64 (max a (max 0 ((c) - ((wholeW xs).2)))), .int .i64 (min b ((d) - ((wholeW xs).1)))]
  | 5 => Fresh W0.heap.size (.cells #[.int .i64 (0), .int .i64 (0)] 25) v w1
  | _ => True

def FS37_5_19 (a b : Int) (A : Option Addr) (xs : List (Int × Int)) (cap : Nat) (c d : Int) (w W0 : World) (iq : Nat) (v : Value) (w1 : World) : Prop := match iq with
  | 0 => v = .agg #[.int .i64 (c), .int .i64 (d)]
  | 1 => v = .agg #[.int .i64 (a), .int .i64 (b)]
  | 2 => v = .agg #[.int .i64 ((wholeW xs).1), .int .i64 ((wholeW xs).2)]
  | 3 => v = .agg #[.int .i64 (a + ((wholeW xs).1)), .int .i64 (b + ((wholeW xs).2))]
  | 4 => v = .agg #[.int .i64 (max (c) (a + ((wholeW xs).1))), .int .i64 (min (d) (b + ((wholeW xs).2)))]
  | 5 => Fresh W0.heap.size (.cells #[.int .i64 (0), .int .i64 (0)] 25) v w1
  | _ => True

def FS37_4_20 (a b : Int) (A : Option Addr) (xs : List (Int × Int)) (cap : Nat) (c d : Int) (w W0 : World) (iq : Nat) (v : Value) (w1 : World) : Prop := match iq with
  | 0 => v = .agg #[.int .i64 (a), .int .i64 (b)]
  | 1 => v = .agg #[.int .i64 (c), .int .i64 (d)]
  | 2 => v = .agg #[.int .i64 ((wholeW xs).1), .int .i64 ((wholeW xs).2)]
  | 3 => v = .agg #[.int .i64 (max 0 ((c) - ((wholeW xs).2))), .int .i64 ((d) - ((wholeW xs).1))]
  | 4 => v = .agg #[.int .i64 (max a (max 0 ((c) - ((wholeW xs).2)))), .int .i64 (min b ((d) - ((wholeW xs).1)))]
  | 5 => Fresh W0.heap.size (.cells #[.int .i64 (0), .int .i64 (0)] 25) v w1
  | _ => True

def FS37_5_21 (a b : Int) (A : Option Addr) (xs : List (Int × Int)) (cap : Nat) (c d : Int) (w W0 : World) (iq : Nat) (v : Value) (w1 : World) : Prop := match iq with
  | 0 => v = .agg #[.int .i64 (c), .int .i64 (d)]
  | 1 => v = .agg #[.int .i64 (a), .int .i64 (b)]
  | 2 => v = .agg #[.int .i64 ((wholeW xs).1), .int .i64 ((wholeW xs).2)]
  | 3 => v = .agg #[.int .i64 (a + ((wholeW xs).1)), .int .i64 (b + ((wholeW xs).2))]
  | 4 => v = .agg #[.int .i64 (max (c) (a + ((wholeW xs).1))), .int .i64 (min (d) (b + ((wholeW xs).2)))]
  | 5 => Fresh W0.heap.size (.cells #[.int .i64 (0), .int .i64 (0)] 25) v w1
  | _ => True

set_option maxHeartbeats 8000000 in
theorem c_spec_NarrowVoyage (a b : Int) (A : Option Addr) (xs : List (Int × Int)) (cap : Nat) (c d : Int) (w : World) (hx : Rds cLeg 2 w A xs) (hn : xs.length ≤ 2000000) :
    Calls Try.prog 37 #[.agg #[.int .i64 (a), .int .i64 (b)], .slice A xs.length cap, .agg #[.int .i64 (c), .int .i64 (d)]] w fun e w' => e = .returned (.tuple #[.agg #[.int .i64 ((narrowV a b xs c d).1.1.1), .int .i64 ((narrowV a b xs c d).1.1.2)], .agg #[.int .i64 ((narrowV a b xs c d).1.2.1), .int .i64 ((narrowV a b xs c d).1.2.2)], .bool ((narrowV a b xs c d).2)]) ∧ Below w.heap.size w w' := by
  have kf0 : ∀ (a0 a1 : Value) (w : World), (Instr.field 39 (.agg #[a0, a1]) 0).run Try.prog w = .ok a0 w := fun _ _ _ => by kernel_rfl
  have kf1 : ∀ (a0 a1 : Value) (w : World), (Instr.field 39 (.agg #[a0, a1]) 1).run Try.prog w = .ok a1 w := fun _ _ _ => by kernel_rfl
  by_cases hs0 : goodI a b = true
  rotate_left
  · have hn : goodI a b = false := Bool.eq_false_iff.2 hs0
    clear hs0
    go_enter Try.func37, Try.ntmps37
    go_wp2_with (first | (go_at_call 55; refine (c_spec_l13Good _ _ _ ).mono ?_; rintro e w' ⟨rfl, hb⟩; have hc := cellOf hb; have hf := frozOf hb; have hz := sizeOf hb; try simp at hz) | (go_at_call 61; refine (c_spec_l13Leg _ _ _ ).mono ?_; rintro e w' ⟨rfl, hb⟩; have hc := cellOf hb; have hf := frozOf hb; have hz := sizeOf hb; try simp at hz) | (go_at_call 56; refine (c_spec_l8Minute _ _ ).mono ?_; rintro e w' ⟨rfl, hb⟩; have hc := cellOf hb; have hf := frozOf hb; have hz := sizeOf hb; try simp at hz) | (go_at_call 58; refine (c_spec_l1Most _ _ _ ).mono ?_; rintro e w' ⟨rfl, hb⟩; have hc := cellOf hb; have hf := frozOf hb; have hz := sizeOf hb; try simp at hz) | (go_at_call 60; refine (c_spec_l1Least _ _ _ ).mono ?_; rintro e w' ⟨rfl, hb⟩; have hc := cellOf hb; have hf := frozOf hb; have hz := sizeOf hb; try simp at hz) | (go_at_call 62; refine (c_spec_l13Checked _ _ _ ).mono ?_; rintro e w' ⟨rfl, hb⟩; have hc := cellOf hb; have hf := frozOf hb; have hz := sizeOf hb; try simp at hz) | (go_at_call 63; refine (c_spec_l13After _ _ _ _ _ (by omega) (by omega) (by omega) (by omega)).mono ?_; rintro e w' ⟨rfl, hb⟩; have hc := cellOf hb; have hf := frozOf hb; have hz := sizeOf hb; try simp at hz) | (go_at_call 66; refine (c_spec_l13Before _ _ _ _ _ (by omega) (by omega) (by omega) (by omega)).mono ?_; rintro e w' ⟨rfl, hb⟩; have hc := cellOf hb; have hf := frozOf hb; have hz := sizeOf hb; try simp at hz) | (go_at_call 65; refine (c_spec_l13Common _ _ _ _ _ ).mono ?_; rintro e w' ⟨rfl, hb⟩; have hc := cellOf hb; have hf := frozOf hb; have hz := sizeOf hb; try simp at hz) | (go_at_call 67; refine (c_spec_l13Legs _ _ _ _ (by first | assumption | exact Rds.below hx (by (repeat' (first | exact Below.refl _ _ | assumption | refine Below.setCell ?_ ?_ _ | refine Below.drew ?_ | refine Below.alloc ?_ ?_ _ | refine Below.trans ?_ (Below.mono (by assumption) ?_) | (simp; done) | (simp; omega) | omega)))) (by omega)).mono ?_; rintro e w' ⟨rfl, hb⟩; have hc := cellOf hb; have hf := frozOf hb; have hz := sizeOf hb; try simp at hz) | (go_at_call 68; refine (c_spec_l13Whole _ _ _ _ (by first | assumption | exact Rds.below hx (by (repeat' (first | exact Below.refl _ _ | assumption | refine Below.setCell ?_ ?_ _ | refine Below.drew ?_ | refine Below.alloc ?_ ?_ _ | refine Below.trans ?_ (Below.mono (by assumption) ?_) | (simp; done) | (simp; omega) | omega)))) (by omega)).mono ?_; rintro e w' ⟨rfl, hb⟩; have hc := cellOf hb; have hf := frozOf hb; have hz := sizeOf hb; try simp at hz))
    all_goals
      refine bodyPost_ret (v := .tuple #[.agg #[.int .i64 ((narrowV a b xs c d).1.1.1), .int .i64 ((narrowV a b xs c d).1.1.2)], .agg #[.int .i64 ((narrowV a b xs c d).1.2.1), .int .i64 ((narrowV a b xs c d).1.2.2)], .bool ((narrowV a b xs c d).2)]) ?_ rfl ⟨rfl, ?_⟩
      · first | (simp [results, Try.results37, go_sem, ↓IntWalk.iteOmega, narrowV, *]; done) | (simp [results, Try.results37, go_sem, ↓IntWalk.iteOmega, narrowV, *]; omega) | (simp [results, Try.results37, go_sem, ↓IntWalk.iteOmega, narrowV, *]; simp_all [narrowV]; done)
      · (repeat' (first | exact Below.refl _ _ | assumption | refine Below.setCell ?_ ?_ _ | refine Below.drew ?_ | refine Below.alloc ?_ ?_ _ | refine Below.trans ?_ (Below.mono (by assumption) ?_) | (simp; done) | (simp; omega) | omega))
  have hbd0 := goodI_bd hs0
  by_cases hs1 : voyB xs = true
  rotate_left
  · have hn : voyB xs = false := Bool.eq_false_iff.2 hs1
    clear hs1
    go_enter Try.func37, Try.ntmps37
    go_wp2_with (first | (go_at_call 55; refine (c_spec_l13Good _ _ _ ).mono ?_; rintro e w' ⟨rfl, hb⟩; have hc := cellOf hb; have hf := frozOf hb; have hz := sizeOf hb; try simp at hz) | (go_at_call 61; refine (c_spec_l13Leg _ _ _ ).mono ?_; rintro e w' ⟨rfl, hb⟩; have hc := cellOf hb; have hf := frozOf hb; have hz := sizeOf hb; try simp at hz) | (go_at_call 56; refine (c_spec_l8Minute _ _ ).mono ?_; rintro e w' ⟨rfl, hb⟩; have hc := cellOf hb; have hf := frozOf hb; have hz := sizeOf hb; try simp at hz) | (go_at_call 58; refine (c_spec_l1Most _ _ _ ).mono ?_; rintro e w' ⟨rfl, hb⟩; have hc := cellOf hb; have hf := frozOf hb; have hz := sizeOf hb; try simp at hz) | (go_at_call 60; refine (c_spec_l1Least _ _ _ ).mono ?_; rintro e w' ⟨rfl, hb⟩; have hc := cellOf hb; have hf := frozOf hb; have hz := sizeOf hb; try simp at hz) | (go_at_call 62; refine (c_spec_l13Checked _ _ _ ).mono ?_; rintro e w' ⟨rfl, hb⟩; have hc := cellOf hb; have hf := frozOf hb; have hz := sizeOf hb; try simp at hz) | (go_at_call 63; refine (c_spec_l13After _ _ _ _ _ (by omega) (by omega) (by omega) (by omega)).mono ?_; rintro e w' ⟨rfl, hb⟩; have hc := cellOf hb; have hf := frozOf hb; have hz := sizeOf hb; try simp at hz) | (go_at_call 66; refine (c_spec_l13Before _ _ _ _ _ (by omega) (by omega) (by omega) (by omega)).mono ?_; rintro e w' ⟨rfl, hb⟩; have hc := cellOf hb; have hf := frozOf hb; have hz := sizeOf hb; try simp at hz) | (go_at_call 65; refine (c_spec_l13Common _ _ _ _ _ ).mono ?_; rintro e w' ⟨rfl, hb⟩; have hc := cellOf hb; have hf := frozOf hb; have hz := sizeOf hb; try simp at hz) | (go_at_call 67; refine (c_spec_l13Legs _ _ _ _ (by first | assumption | exact Rds.below hx (by (repeat' (first | exact Below.refl _ _ | assumption | refine Below.setCell ?_ ?_ _ | refine Below.drew ?_ | refine Below.alloc ?_ ?_ _ | refine Below.trans ?_ (Below.mono (by assumption) ?_) | (simp; done) | (simp; omega) | omega)))) (by omega)).mono ?_; rintro e w' ⟨rfl, hb⟩; have hc := cellOf hb; have hf := frozOf hb; have hz := sizeOf hb; try simp at hz) | (go_at_call 68; refine (c_spec_l13Whole _ _ _ _ (by first | assumption | exact Rds.below hx (by (repeat' (first | exact Below.refl _ _ | assumption | refine Below.setCell ?_ ?_ _ | refine Below.drew ?_ | refine Below.alloc ?_ ?_ _ | refine Below.trans ?_ (Below.mono (by assumption) ?_) | (simp; done) | (simp; omega) | omega)))) (by omega)).mono ?_; rintro e w' ⟨rfl, hb⟩; have hc := cellOf hb; have hf := frozOf hb; have hz := sizeOf hb; try simp at hz))
    all_goals
      refine bodyPost_ret (v := .tuple #[.agg #[.int .i64 ((narrowV a b xs c d).1.1.1), .int .i64 ((narrowV a b xs c d).1.1.2)], .agg #[.int .i64 ((narrowV a b xs c d).1.2.1), .int .i64 ((narrowV a b xs c d).1.2.2)], .bool ((narrowV a b xs c d).2)]) ?_ rfl ⟨rfl, ?_⟩
      · first | (simp [results, Try.results37, go_sem, ↓IntWalk.iteOmega, narrowV, *]; done) | (simp [results, Try.results37, go_sem, ↓IntWalk.iteOmega, narrowV, *]; omega) | (simp [results, Try.results37, go_sem, ↓IntWalk.iteOmega, narrowV, *]; simp_all [narrowV]; done)
      · (repeat' (first | exact Below.refl _ _ | assumption | refine Below.setCell ?_ ?_ _ | refine Below.drew ?_ | refine Below.alloc ?_ ?_ _ | refine Below.trans ?_ (Below.mono (by assumption) ?_) | (simp; done) | (simp; omega) | omega))
  have hbd1 := voyB_bd hs1
  by_cases hs2 : goodI c d = true
  rotate_left
  · have hn : goodI c d = false := Bool.eq_false_iff.2 hs2
    clear hs2
    go_enter Try.func37, Try.ntmps37
    go_wp2_with (first | (go_at_call 55; refine (c_spec_l13Good _ _ _ ).mono ?_; rintro e w' ⟨rfl, hb⟩; have hc := cellOf hb; have hf := frozOf hb; have hz := sizeOf hb; try simp at hz) | (go_at_call 61; refine (c_spec_l13Leg _ _ _ ).mono ?_; rintro e w' ⟨rfl, hb⟩; have hc := cellOf hb; have hf := frozOf hb; have hz := sizeOf hb; try simp at hz) | (go_at_call 56; refine (c_spec_l8Minute _ _ ).mono ?_; rintro e w' ⟨rfl, hb⟩; have hc := cellOf hb; have hf := frozOf hb; have hz := sizeOf hb; try simp at hz) | (go_at_call 58; refine (c_spec_l1Most _ _ _ ).mono ?_; rintro e w' ⟨rfl, hb⟩; have hc := cellOf hb; have hf := frozOf hb; have hz := sizeOf hb; try simp at hz) | (go_at_call 60; refine (c_spec_l1Least _ _ _ ).mono ?_; rintro e w' ⟨rfl, hb⟩; have hc := cellOf hb; have hf := frozOf hb; have hz := sizeOf hb; try simp at hz) | (go_at_call 62; refine (c_spec_l13Checked _ _ _ ).mono ?_; rintro e w' ⟨rfl, hb⟩; have hc := cellOf hb; have hf := frozOf hb; have hz := sizeOf hb; try simp at hz) | (go_at_call 63; refine (c_spec_l13After _ _ _ _ _ (by omega) (by omega) (by omega) (by omega)).mono ?_; rintro e w' ⟨rfl, hb⟩; have hc := cellOf hb; have hf := frozOf hb; have hz := sizeOf hb; try simp at hz) | (go_at_call 66; refine (c_spec_l13Before _ _ _ _ _ (by omega) (by omega) (by omega) (by omega)).mono ?_; rintro e w' ⟨rfl, hb⟩; have hc := cellOf hb; have hf := frozOf hb; have hz := sizeOf hb; try simp at hz) | (go_at_call 65; refine (c_spec_l13Common _ _ _ _ _ ).mono ?_; rintro e w' ⟨rfl, hb⟩; have hc := cellOf hb; have hf := frozOf hb; have hz := sizeOf hb; try simp at hz) | (go_at_call 67; refine (c_spec_l13Legs _ _ _ _ (by first | assumption | exact Rds.below hx (by (repeat' (first | exact Below.refl _ _ | assumption | refine Below.setCell ?_ ?_ _ | refine Below.drew ?_ | refine Below.alloc ?_ ?_ _ | refine Below.trans ?_ (Below.mono (by assumption) ?_) | (simp; done) | (simp; omega) | omega)))) (by omega)).mono ?_; rintro e w' ⟨rfl, hb⟩; have hc := cellOf hb; have hf := frozOf hb; have hz := sizeOf hb; try simp at hz) | (go_at_call 68; refine (c_spec_l13Whole _ _ _ _ (by first | assumption | exact Rds.below hx (by (repeat' (first | exact Below.refl _ _ | assumption | refine Below.setCell ?_ ?_ _ | refine Below.drew ?_ | refine Below.alloc ?_ ?_ _ | refine Below.trans ?_ (Below.mono (by assumption) ?_) | (simp; done) | (simp; omega) | omega)))) (by omega)).mono ?_; rintro e w' ⟨rfl, hb⟩; have hc := cellOf hb; have hf := frozOf hb; have hz := sizeOf hb; try simp at hz))
    all_goals
      refine bodyPost_ret (v := .tuple #[.agg #[.int .i64 ((narrowV a b xs c d).1.1.1), .int .i64 ((narrowV a b xs c d).1.1.2)], .agg #[.int .i64 ((narrowV a b xs c d).1.2.1), .int .i64 ((narrowV a b xs c d).1.2.2)], .bool ((narrowV a b xs c d).2)]) ?_ rfl ⟨rfl, ?_⟩
      · first | (simp [results, Try.results37, go_sem, ↓IntWalk.iteOmega, narrowV, *]; done) | (simp [results, Try.results37, go_sem, ↓IntWalk.iteOmega, narrowV, *]; omega) | (simp [results, Try.results37, go_sem, ↓IntWalk.iteOmega, narrowV, *]; simp_all [narrowV]; done)
      · (repeat' (first | exact Below.refl _ _ | assumption | refine Below.setCell ?_ ?_ _ | refine Below.drew ?_ | refine Below.alloc ?_ ?_ _ | refine Below.trans ?_ (Below.mono (by assumption) ?_) | (simp; done) | (simp; omega) | omega))
  have hbd2 := goodI_bd hs2
  by_cases hs3 : goodI (max a (max 0 (c - (wholeW xs).2))) (min b (d - (wholeW xs).1)) = true
  rotate_left
  · have hn : goodI (max a (max 0 (c - (wholeW xs).2))) (min b (d - (wholeW xs).1)) = false := Bool.eq_false_iff.2 hs3
    clear hs3
    go_enter Try.func37, Try.ntmps37
    go_wp2_with (first | (go_at_call 55; refine (c_spec_l13Good _ _ _ ).mono ?_; rintro e w' ⟨rfl, hb⟩; have hc := cellOf hb; have hf := frozOf hb; have hz := sizeOf hb; try simp at hz) | (go_at_call 61; refine (c_spec_l13Leg _ _ _ ).mono ?_; rintro e w' ⟨rfl, hb⟩; have hc := cellOf hb; have hf := frozOf hb; have hz := sizeOf hb; try simp at hz) | (go_at_call 56; refine (c_spec_l8Minute _ _ ).mono ?_; rintro e w' ⟨rfl, hb⟩; have hc := cellOf hb; have hf := frozOf hb; have hz := sizeOf hb; try simp at hz) | (go_at_call 58; refine (c_spec_l1Most _ _ _ ).mono ?_; rintro e w' ⟨rfl, hb⟩; have hc := cellOf hb; have hf := frozOf hb; have hz := sizeOf hb; try simp at hz) | (go_at_call 60; refine (c_spec_l1Least _ _ _ ).mono ?_; rintro e w' ⟨rfl, hb⟩; have hc := cellOf hb; have hf := frozOf hb; have hz := sizeOf hb; try simp at hz) | (go_at_call 62; refine (c_spec_l13Checked _ _ _ ).mono ?_; rintro e w' ⟨rfl, hb⟩; have hc := cellOf hb; have hf := frozOf hb; have hz := sizeOf hb; try simp at hz) | (go_at_call 63; refine (c_spec_l13After _ _ _ _ _ (by omega) (by omega) (by omega) (by omega)).mono ?_; rintro e w' ⟨rfl, hb⟩; have hc := cellOf hb; have hf := frozOf hb; have hz := sizeOf hb; try simp at hz) | (go_at_call 66; refine (c_spec_l13Before _ _ _ _ _ (by omega) (by omega) (by omega) (by omega)).mono ?_; rintro e w' ⟨rfl, hb⟩; have hc := cellOf hb; have hf := frozOf hb; have hz := sizeOf hb; try simp at hz) | (go_at_call 65; refine (c_spec_l13Common _ _ _ _ _ ).mono ?_; rintro e w' ⟨rfl, hb⟩; have hc := cellOf hb; have hf := frozOf hb; have hz := sizeOf hb; try simp at hz) | (go_at_call 67; refine (c_spec_l13Legs _ _ _ _ (by first | assumption | exact Rds.below hx (by (repeat' (first | exact Below.refl _ _ | assumption | refine Below.setCell ?_ ?_ _ | refine Below.drew ?_ | refine Below.alloc ?_ ?_ _ | refine Below.trans ?_ (Below.mono (by assumption) ?_) | (simp; done) | (simp; omega) | omega)))) (by omega)).mono ?_; rintro e w' ⟨rfl, hb⟩; have hc := cellOf hb; have hf := frozOf hb; have hz := sizeOf hb; try simp at hz) | (go_at_call 68; refine (c_spec_l13Whole _ _ _ _ (by first | assumption | exact Rds.below hx (by (repeat' (first | exact Below.refl _ _ | assumption | refine Below.setCell ?_ ?_ _ | refine Below.drew ?_ | refine Below.alloc ?_ ?_ _ | refine Below.trans ?_ (Below.mono (by assumption) ?_) | (simp; done) | (simp; omega) | omega)))) (by omega)).mono ?_; rintro e w' ⟨rfl, hb⟩; have hc := cellOf hb; have hf := frozOf hb; have hz := sizeOf hb; try simp at hz))
    refine wp_region_w (n := 6) [] [5] (FS37_4 a b A xs cap c d w) rfl (by kernel_rfl) (fun _ _ d _ _ h => by cases d <;> exact h) ?_ ?_ ?_ ?_ ?_ ?_
    · intro iq
      match iq with
      | 0 | 1 | 2 | 3 | 4 => exact Stable.const _
      | 5 => exact Stable.fresh _ _
      | n + 6 => exact Stable.const _
    · intro iq hi v w1 hF
      have hcase : iq = 5 := by simpa using hi
      subst hcase
      exact Fresh.ltv hF
    · intro iq hi
      exact absurd hi (by simp)
    · intro iq o hi hl ho vals w1 hb1 hf
      exact absurd hl (by simp)
    · intro iq o hi hl ho vals w1 hb1 hf
      match iq, hi with
      | 0, _ =>
        injection ho with ho
        subst ho
        clear hl
        simp only [fillA, List.take, List.drop, put_none, Act.put, List.setIfInBounds_toArray, List.set_cons_zero, List.set_cons_succ, Nat.reduceAdd]
        clear hf
        have hc1 := cellOf hb1
        have hf1 := frozOf hb1
        have hz1 := sizeOf hb1
        try simp at hz1
        go_wp2_with (fail)
        exact RQ.mk rfl ⟨(by first | rfl | (simp [FS37_4]; done) | (simp [FS37_4, *]; done) | (simp [FS37_4, gotV]; done) | (simp [FS37_4, gotV]; omega)), fun h => absurd h (by decide)⟩ (Below.refl _ _)
      | 1, _ =>
        injection ho with ho
        subst ho
        clear hl
        simp only [fillA, List.take, List.drop, put_none, Act.put, List.setIfInBounds_toArray, List.set_cons_zero, List.set_cons_succ, Nat.reduceAdd]
        clear hf
        have hc1 := cellOf hb1
        have hf1 := frozOf hb1
        have hz1 := sizeOf hb1
        try simp at hz1
        go_wp2_with (fail)
        exact RQ.mk rfl ⟨(by first | rfl | (simp [FS37_4]; done) | (simp [FS37_4, *]; done) | (simp [FS37_4, gotV]; done) | (simp [FS37_4, gotV]; omega)), fun h => absurd h (by decide)⟩ (Below.refl _ _)
      | 2, _ =>
        injection ho with ho
        subst ho
        clear hl
        simp only [fillA, List.take, List.drop, put_none, Act.put, List.setIfInBounds_toArray, List.set_cons_zero, List.set_cons_succ, Nat.reduceAdd]
        clear hf
        have hc1 := cellOf hb1
        have hf1 := frozOf hb1
        have hz1 := sizeOf hb1
        try simp at hz1
        go_wp2_with (fail)
        exact RQ.mk rfl ⟨(by first | rfl | (simp [FS37_4]; done) | (simp [FS37_4, *]; done) | (simp [FS37_4, gotV]; done) | (simp [FS37_4, gotV]; omega)), fun h => absurd h (by decide)⟩ (Below.refl _ _)
      | 3, _ =>
        injection ho with ho
        subst ho
        clear hl
        simp only [fillA, List.take, List.drop, put_none, Act.put, List.setIfInBounds_toArray, List.set_cons_zero, List.set_cons_succ, Nat.reduceAdd]
        have f1 := hf 1 (by decide) (by kernel_rfl)
        generalize vals 1 = v1 at *
        subst f1
        have f2 := hf 2 (by decide) (by kernel_rfl)
        generalize vals 2 = v2 at *
        subst f2
        clear hf
        have hc1 := cellOf hb1
        have hf1 := frozOf hb1
        have hz1 := sizeOf hb1
        try simp at hz1
        go_wp2_with (first | (go_at_call 66; refine (c_spec_l13Before _ _ _ _ _ (by omega) (by omega) (by omega) (by omega)).mono ?_; rintro e w' ⟨rfl, hb⟩; have hc := cellOf hb; have hf := frozOf hb; have hz := sizeOf hb; try simp at hz))
        exact RQ.mk rfl ⟨(by first | rfl | (simp [FS37_4]; done) | (simp [FS37_4, *]; done) | (simp [FS37_4, gotV]; done) | (simp [FS37_4, gotV]; omega)), fun h => absurd h (by decide)⟩ (by (repeat' (first | exact Below.refl _ _ | assumption | refine Below.setCell ?_ ?_ _ | refine Below.drew ?_ | refine Below.alloc ?_ ?_ _ | refine Below.trans ?_ (Below.mono (by assumption) ?_) | (simp; done) | (simp; omega) | omega)))
      | 4, _ =>
        injection ho with ho
        subst ho
        clear hl
        simp only [fillA, List.take, List.drop, put_none, Act.put, List.setIfInBounds_toArray, List.set_cons_zero, List.set_cons_succ, Nat.reduceAdd]
        have f0 := hf 0 (by decide) (by kernel_rfl)
        generalize vals 0 = v0 at *
        subst f0
        have f3 := hf 3 (by decide) (by kernel_rfl)
        generalize vals 3 = v3 at *
        subst f3
        clear hf
        have hc1 := cellOf hb1
        have hf1 := frozOf hb1
        have hz1 := sizeOf hb1
        try simp at hz1
        go_wp2_with (first | (go_at_call 65; refine (c_spec_l13Common _ _ _ _ _ ).mono ?_; rintro e w' ⟨rfl, hb⟩; have hc := cellOf hb; have hf := frozOf hb; have hz := sizeOf hb; try simp at hz))
        exact RQ.mk rfl ⟨(by first | rfl | (simp [FS37_4]; done) | (simp [FS37_4, *]; done) | (simp [FS37_4, gotV]; done) | (simp [FS37_4, gotV]; omega)), fun h => absurd h (by decide)⟩ (by (repeat' (first | exact Below.refl _ _ | assumption | refine Below.setCell ?_ ?_ _ | refine Below.drew ?_ | refine Below.alloc ?_ ?_ _ | refine Below.trans ?_ (Below.mono (by assumption) ?_) | (simp; done) | (simp; omega) | omega)))
      | 5, _ =>
        injection ho with ho
        subst ho
        clear hl
        simp only [fillA, List.take, List.drop, put_none, Act.put, List.setIfInBounds_toArray, List.set_cons_zero, List.set_cons_succ, Nat.reduceAdd]
        clear hf
        have hc1 := cellOf hb1
        have hf1 := frozOf hb1
        have hz1 := sizeOf hb1
        try simp at hz1
        go_wp2_with (fail)
        exact RQ.mk rfl ⟨⟨_, rfl, (by first | omega | (simp; omega)), heap_alloc_new _ _⟩, fun _ => Nat.le_refl _⟩ (by (repeat' (first | exact Below.refl _ _ | assumption | refine Below.setCell ?_ ?_ _ | refine Below.drew ?_ | refine Below.alloc ?_ ?_ _ | refine Below.trans ?_ (Below.mono (by assumption) ?_) | (simp; done) | (simp; omega) | omega)))
    · intro vals V4 hb1 hf hd
      simp only [fillA, List.take, List.drop, put_none, Act.put, List.setIfInBounds_toArray, List.set_cons_zero, List.set_cons_succ, Nat.reduceAdd]
      clear hd
      have f0 := hf 0 (by decide)
      generalize vals 0 = v0 at *
      subst f0
      have f1 := hf 1 (by decide)
      generalize vals 1 = v1 at *
      subst f1
      have f2 := hf 2 (by decide)
      generalize vals 2 = v2 at *
      subst f2
      have f3 := hf 3 (by decide)
      generalize vals 3 = v3 at *
      subst f3
      have f4 := hf 4 (by decide)
      generalize vals 4 = v4 at *
      subst f4
      have f5 := hf 5 (by decide)
      generalize vals 5 = v5 at *
      obtain ⟨g2, rfl, hg2a, hg2b⟩ := f5
      try simp at hg2a
      clear hf
      have hc1 := cellOf hb1
      have hf1 := frozOf hb1
      have hz1 := sizeOf hb1
      try simp at hz1
      have hg2c := Fresh.lt hg2b
      have hg2d := Fresh.cell hg2b
      have hg2e := Fresh.froz hg2b
      have hg2f := Fresh.far hg2b
      have hg2g := Fresh.farz hg2b
      clear hg2b
      go_wp2_with (first | (go_at_call 55; refine (c_spec_l13Good _ _ _ ).mono ?_; rintro e w' ⟨rfl, hb⟩; have hc := cellOf hb; have hf := frozOf hb; have hz := sizeOf hb; try simp at hz) | (go_at_call 61; refine (c_spec_l13Leg _ _ _ ).mono ?_; rintro e w' ⟨rfl, hb⟩; have hc := cellOf hb; have hf := frozOf hb; have hz := sizeOf hb; try simp at hz) | (go_at_call 56; refine (c_spec_l8Minute _ _ ).mono ?_; rintro e w' ⟨rfl, hb⟩; have hc := cellOf hb; have hf := frozOf hb; have hz := sizeOf hb; try simp at hz) | (go_at_call 58; refine (c_spec_l1Most _ _ _ ).mono ?_; rintro e w' ⟨rfl, hb⟩; have hc := cellOf hb; have hf := frozOf hb; have hz := sizeOf hb; try simp at hz) | (go_at_call 60; refine (c_spec_l1Least _ _ _ ).mono ?_; rintro e w' ⟨rfl, hb⟩; have hc := cellOf hb; have hf := frozOf hb; have hz := sizeOf hb; try simp at hz) | (go_at_call 62; refine (c_spec_l13Checked _ _ _ ).mono ?_; rintro e w' ⟨rfl, hb⟩; have hc := cellOf hb; have hf := frozOf hb; have hz := sizeOf hb; try simp at hz) | (go_at_call 63; refine (c_spec_l13After _ _ _ _ _ (by omega) (by omega) (by omega) (by omega)).mono ?_; rintro e w' ⟨rfl, hb⟩; have hc := cellOf hb; have hf := frozOf hb; have hz := sizeOf hb; try simp at hz) | (go_at_call 66; refine (c_spec_l13Before _ _ _ _ _ (by omega) (by omega) (by omega) (by omega)).mono ?_; rintro e w' ⟨rfl, hb⟩; have hc := cellOf hb; have hf := frozOf hb; have hz := sizeOf hb; try simp at hz) | (go_at_call 65; refine (c_spec_l13Common _ _ _ _ _ ).mono ?_; rintro e w' ⟨rfl, hb⟩; have hc := cellOf hb; have hf := frozOf hb; have hz := sizeOf hb; try simp at hz) | (go_at_call 67; refine (c_spec_l13Legs _ _ _ _ (by first | assumption | exact Rds.below hx (by (repeat' (first | exact Below.refl _ _ | assumption | refine Below.setCell ?_ ?_ _ | refine Below.drew ?_ | refine Below.alloc ?_ ?_ _ | refine Below.trans ?_ (Below.mono (by assumption) ?_) | (simp; done) | (simp; omega) | omega)))) (by omega)).mono ?_; rintro e w' ⟨rfl, hb⟩; have hc := cellOf hb; have hf := frozOf hb; have hz := sizeOf hb; try simp at hz) | (go_at_call 68; refine (c_spec_l13Whole _ _ _ _ (by first | assumption | exact Rds.below hx (by (repeat' (first | exact Below.refl _ _ | assumption | refine Below.setCell ?_ ?_ _ | refine Below.drew ?_ | refine Below.alloc ?_ ?_ _ | refine Below.trans ?_ (Below.mono (by assumption) ?_) | (simp; done) | (simp; omega) | omega)))) (by omega)).mono ?_; rintro e w' ⟨rfl, hb⟩; have hc := cellOf hb; have hf := frozOf hb; have hz := sizeOf hb; try simp at hz))
      refine wp_region_w (n := 6) [] [5] (FS37_5 a b A xs cap c d w) rfl (by kernel_rfl) (fun _ _ d _ _ h => by cases d <;> exact h) ?_ ?_ ?_ ?_ ?_ ?_
      · intro iq
        match iq with
        | 0 | 1 | 2 | 3 | 4 => exact Stable.const _
        | 5 => exact Stable.fresh _ _
        | n + 6 => exact Stable.const _
      · intro iq hi v w1 hF
        have hcase : iq = 5 := by simpa using hi
        subst hcase
        exact Fresh.ltv hF
      · intro iq hi
        exact absurd hi (by simp)
      · intro iq o hi hl ho vals w1 hb1 hf
        exact absurd hl (by simp)
      · intro iq o hi hl ho vals w1 hb1 hf
        match iq, hi with
        | 0, _ =>
          injection ho with ho
          subst ho
          clear hl
          simp only [fillA, List.take, List.drop, put_none, Act.put, List.setIfInBounds_toArray, List.set_cons_zero, List.set_cons_succ, Nat.reduceAdd]
          clear hf
          have hc1 := cellOf hb1
          have hf1 := frozOf hb1
          have hz1 := sizeOf hb1
          try simp at hz1
          go_wp2_with (fail)
          exact RQ.mk rfl ⟨(by first | rfl | (simp [FS37_5]; done) | (simp [FS37_5, *]; done) | (simp [FS37_5, gotV]; done) | (simp [FS37_5, gotV]; omega)), fun h => absurd h (by decide)⟩ (Below.refl _ _)
        | 1, _ =>
          injection ho with ho
          subst ho
          clear hl
          simp only [fillA, List.take, List.drop, put_none, Act.put, List.setIfInBounds_toArray, List.set_cons_zero, List.set_cons_succ, Nat.reduceAdd]
          clear hf
          have hc1 := cellOf hb1
          have hf1 := frozOf hb1
          have hz1 := sizeOf hb1
          try simp at hz1
          go_wp2_with (fail)
          exact RQ.mk rfl ⟨(by first | rfl | (simp [FS37_5]; done) | (simp [FS37_5, *]; done) | (simp [FS37_5, gotV]; done) | (simp [FS37_5, gotV]; omega)), fun h => absurd h (by decide)⟩ (Below.refl _ _)
        | 2, _ =>
          injection ho with ho
          subst ho
          clear hl
          simp only [fillA, List.take, List.drop, put_none, Act.put, List.setIfInBounds_toArray, List.set_cons_zero, List.set_cons_succ, Nat.reduceAdd]
          clear hf
          have hc1 := cellOf hb1
          have hf1 := frozOf hb1
          have hz1 := sizeOf hb1
          try simp at hz1
          go_wp2_with (fail)
          exact RQ.mk rfl ⟨(by first | rfl | (simp [FS37_5]; done) | (simp [FS37_5, *]; done) | (simp [FS37_5, gotV]; done) | (simp [FS37_5, gotV]; omega)), fun h => absurd h (by decide)⟩ (Below.refl _ _)
        | 3, _ =>
          injection ho with ho
          subst ho
          clear hl
          simp only [fillA, List.take, List.drop, put_none, Act.put, List.setIfInBounds_toArray, List.set_cons_zero, List.set_cons_succ, Nat.reduceAdd]
          have f1 := hf 1 (by decide) (by kernel_rfl)
          generalize vals 1 = v1 at *
          subst f1
          have f2 := hf 2 (by decide) (by kernel_rfl)
          generalize vals 2 = v2 at *
          subst f2
          clear hf
          have hc1 := cellOf hb1
          have hf1 := frozOf hb1
          have hz1 := sizeOf hb1
          try simp at hz1
          go_wp2_with (first | (go_at_call 63; refine (c_spec_l13After _ _ _ _ _ (by omega) (by omega) (by omega) (by omega)).mono ?_; rintro e w' ⟨rfl, hb⟩; have hc := cellOf hb; have hf := frozOf hb; have hz := sizeOf hb; try simp at hz))
          exact RQ.mk rfl ⟨(by first | rfl | (simp [FS37_5]; done) | (simp [FS37_5, *]; done) | (simp [FS37_5, gotV]; done) | (simp [FS37_5, gotV]; omega)), fun h => absurd h (by decide)⟩ (by (repeat' (first | exact Below.refl _ _ | assumption | refine Below.setCell ?_ ?_ _ | refine Below.drew ?_ | refine Below.alloc ?_ ?_ _ | refine Below.trans ?_ (Below.mono (by assumption) ?_) | (simp; done) | (simp; omega) | omega)))
        | 4, _ =>
          injection ho with ho
          subst ho
          clear hl
          simp only [fillA, List.take, List.drop, put_none, Act.put, List.setIfInBounds_toArray, List.set_cons_zero, List.set_cons_succ, Nat.reduceAdd]
          have f0 := hf 0 (by decide) (by kernel_rfl)
          generalize vals 0 = v0 at *
          subst f0
          have f3 := hf 3 (by decide) (by kernel_rfl)
          generalize vals 3 = v3 at *
          subst f3
          clear hf
          have hc1 := cellOf hb1
          have hf1 := frozOf hb1
          have hz1 := sizeOf hb1
          try simp at hz1
          go_wp2_with (first | (go_at_call 65; refine (c_spec_l13Common _ _ _ _ _ ).mono ?_; rintro e w' ⟨rfl, hb⟩; have hc := cellOf hb; have hf := frozOf hb; have hz := sizeOf hb; try simp at hz))
          exact RQ.mk rfl ⟨(by first | rfl | (simp [FS37_5]; done) | (simp [FS37_5, *]; done) | (simp [FS37_5, gotV]; done) | (simp [FS37_5, gotV]; omega)), fun h => absurd h (by decide)⟩ (by (repeat' (first | exact Below.refl _ _ | assumption | refine Below.setCell ?_ ?_ _ | refine Below.drew ?_ | refine Below.alloc ?_ ?_ _ | refine Below.trans ?_ (Below.mono (by assumption) ?_) | (simp; done) | (simp; omega) | omega)))
        | 5, _ =>
          injection ho with ho
          subst ho
          clear hl
          simp only [fillA, List.take, List.drop, put_none, Act.put, List.setIfInBounds_toArray, List.set_cons_zero, List.set_cons_succ, Nat.reduceAdd]
          clear hf
          have hc1 := cellOf hb1
          have hf1 := frozOf hb1
          have hz1 := sizeOf hb1
          try simp at hz1
          go_wp2_with (fail)
          exact RQ.mk rfl ⟨⟨_, rfl, (by first | omega | (simp; omega)), heap_alloc_new _ _⟩, fun _ => Nat.le_refl _⟩ (by (repeat' (first | exact Below.refl _ _ | assumption | refine Below.setCell ?_ ?_ _ | refine Below.drew ?_ | refine Below.alloc ?_ ?_ _ | refine Below.trans ?_ (Below.mono (by assumption) ?_) | (simp; done) | (simp; omega) | omega)))
      · intro vals V5 hb1 hf hd
        simp only [fillA, List.take, List.drop, put_none, Act.put, List.setIfInBounds_toArray, List.set_cons_zero, List.set_cons_succ, Nat.reduceAdd]
        clear hd
        have f0 := hf 0 (by decide)
        generalize vals 0 = v0 at *
        subst f0
        have f1 := hf 1 (by decide)
        generalize vals 1 = v1 at *
        subst f1
        have f2 := hf 2 (by decide)
        generalize vals 2 = v2 at *
        subst f2
        have f3 := hf 3 (by decide)
        generalize vals 3 = v3 at *
        subst f3
        have f4 := hf 4 (by decide)
        generalize vals 4 = v4 at *
        subst f4
        have f5 := hf 5 (by decide)
        generalize vals 5 = v5 at *
        obtain ⟨g3, rfl, hg3a, hg3b⟩ := f5
        try simp at hg3a
        clear hf
        have hc1 := cellOf hb1
        have hf1 := frozOf hb1
        have hz1 := sizeOf hb1
        try simp at hz1
        have hg3c := Fresh.lt hg3b
        have hg3d := Fresh.cell hg3b
        have hg3e := Fresh.froz hg3b
        have hg3f := Fresh.far hg3b
        have hg3g := Fresh.farz hg3b
        clear hg3b
        go_wp2_with (first | (go_at_call 55; refine (c_spec_l13Good _ _ _ ).mono ?_; rintro e w' ⟨rfl, hb⟩; have hc := cellOf hb; have hf := frozOf hb; have hz := sizeOf hb; try simp at hz) | (go_at_call 61; refine (c_spec_l13Leg _ _ _ ).mono ?_; rintro e w' ⟨rfl, hb⟩; have hc := cellOf hb; have hf := frozOf hb; have hz := sizeOf hb; try simp at hz) | (go_at_call 56; refine (c_spec_l8Minute _ _ ).mono ?_; rintro e w' ⟨rfl, hb⟩; have hc := cellOf hb; have hf := frozOf hb; have hz := sizeOf hb; try simp at hz) | (go_at_call 58; refine (c_spec_l1Most _ _ _ ).mono ?_; rintro e w' ⟨rfl, hb⟩; have hc := cellOf hb; have hf := frozOf hb; have hz := sizeOf hb; try simp at hz) | (go_at_call 60; refine (c_spec_l1Least _ _ _ ).mono ?_; rintro e w' ⟨rfl, hb⟩; have hc := cellOf hb; have hf := frozOf hb; have hz := sizeOf hb; try simp at hz) | (go_at_call 62; refine (c_spec_l13Checked _ _ _ ).mono ?_; rintro e w' ⟨rfl, hb⟩; have hc := cellOf hb; have hf := frozOf hb; have hz := sizeOf hb; try simp at hz) | (go_at_call 63; refine (c_spec_l13After _ _ _ _ _ (by omega) (by omega) (by omega) (by omega)).mono ?_; rintro e w' ⟨rfl, hb⟩; have hc := cellOf hb; have hf := frozOf hb; have hz := sizeOf hb; try simp at hz) | (go_at_call 66; refine (c_spec_l13Before _ _ _ _ _ (by omega) (by omega) (by omega) (by omega)).mono ?_; rintro e w' ⟨rfl, hb⟩; have hc := cellOf hb; have hf := frozOf hb; have hz := sizeOf hb; try simp at hz) | (go_at_call 65; refine (c_spec_l13Common _ _ _ _ _ ).mono ?_; rintro e w' ⟨rfl, hb⟩; have hc := cellOf hb; have hf := frozOf hb; have hz := sizeOf hb; try simp at hz) | (go_at_call 67; refine (c_spec_l13Legs _ _ _ _ (by first | assumption | exact Rds.below hx (by (repeat' (first | exact Below.refl _ _ | assumption | refine Below.setCell ?_ ?_ _ | refine Below.drew ?_ | refine Below.alloc ?_ ?_ _ | refine Below.trans ?_ (Below.mono (by assumption) ?_) | (simp; done) | (simp; omega) | omega)))) (by omega)).mono ?_; rintro e w' ⟨rfl, hb⟩; have hc := cellOf hb; have hf := frozOf hb; have hz := sizeOf hb; try simp at hz) | (go_at_call 68; refine (c_spec_l13Whole _ _ _ _ (by first | assumption | exact Rds.below hx (by (repeat' (first | exact Below.refl _ _ | assumption | refine Below.setCell ?_ ?_ _ | refine Below.drew ?_ | refine Below.alloc ?_ ?_ _ | refine Below.trans ?_ (Below.mono (by assumption) ?_) | (simp; done) | (simp; omega) | omega)))) (by omega)).mono ?_; rintro e w' ⟨rfl, hb⟩; have hc := cellOf hb; have hf := frozOf hb; have hz := sizeOf hb; try simp at hz))
        all_goals
          refine bodyPost_ret (v := .tuple #[.agg #[.int .i64 ((narrowV a b xs c d).1.1.1), .int .i64 ((narrowV a b xs c d).1.1.2)], .agg #[.int .i64 ((narrowV a b xs c d).1.2.1), .int .i64 ((narrowV a b xs c d).1.2.2)], .bool ((narrowV a b xs c d).2)]) ?_ rfl ⟨rfl, ?_⟩
          · first | (simp [results, Try.results37, go_sem, ↓IntWalk.iteOmega, narrowV, *]; done) | (simp [results, Try.results37, go_sem, ↓IntWalk.iteOmega, narrowV, *]; omega) | (simp [results, Try.results37, go_sem, ↓IntWalk.iteOmega, narrowV, *]; simp_all [narrowV]; done)
          · (repeat' (first | exact Below.refl _ _ | assumption | refine Below.setCell ?_ ?_ _ | refine Below.drew ?_ | refine Below.alloc ?_ ?_ _ | refine Below.trans ?_ (Below.mono (by assumption) ?_) | (simp; done) | (simp; omega) | omega))
  by_cases hs4 : goodI (max c (a + (wholeW xs).1)) (min d (b + (wholeW xs).2)) = true
  rotate_left
  · have hn : goodI (max c (a + (wholeW xs).1)) (min d (b + (wholeW xs).2)) = false := Bool.eq_false_iff.2 hs4
    clear hs4
    go_enter Try.func37, Try.ntmps37
    go_wp2_with (first | (go_at_call 55; refine (c_spec_l13Good _ _ _ ).mono ?_; rintro e w' ⟨rfl, hb⟩; have hc := cellOf hb; have hf := frozOf hb; have hz := sizeOf hb; try simp at hz) | (go_at_call 61; refine (c_spec_l13Leg _ _ _ ).mono ?_; rintro e w' ⟨rfl, hb⟩; have hc := cellOf hb; have hf := frozOf hb; have hz := sizeOf hb; try simp at hz) | (go_at_call 56; refine (c_spec_l8Minute _ _ ).mono ?_; rintro e w' ⟨rfl, hb⟩; have hc := cellOf hb; have hf := frozOf hb; have hz := sizeOf hb; try simp at hz) | (go_at_call 58; refine (c_spec_l1Most _ _ _ ).mono ?_; rintro e w' ⟨rfl, hb⟩; have hc := cellOf hb; have hf := frozOf hb; have hz := sizeOf hb; try simp at hz) | (go_at_call 60; refine (c_spec_l1Least _ _ _ ).mono ?_; rintro e w' ⟨rfl, hb⟩; have hc := cellOf hb; have hf := frozOf hb; have hz := sizeOf hb; try simp at hz) | (go_at_call 62; refine (c_spec_l13Checked _ _ _ ).mono ?_; rintro e w' ⟨rfl, hb⟩; have hc := cellOf hb; have hf := frozOf hb; have hz := sizeOf hb; try simp at hz) | (go_at_call 63; refine (c_spec_l13After _ _ _ _ _ (by omega) (by omega) (by omega) (by omega)).mono ?_; rintro e w' ⟨rfl, hb⟩; have hc := cellOf hb; have hf := frozOf hb; have hz := sizeOf hb; try simp at hz) | (go_at_call 66; refine (c_spec_l13Before _ _ _ _ _ (by omega) (by omega) (by omega) (by omega)).mono ?_; rintro e w' ⟨rfl, hb⟩; have hc := cellOf hb; have hf := frozOf hb; have hz := sizeOf hb; try simp at hz) | (go_at_call 65; refine (c_spec_l13Common _ _ _ _ _ ).mono ?_; rintro e w' ⟨rfl, hb⟩; have hc := cellOf hb; have hf := frozOf hb; have hz := sizeOf hb; try simp at hz) | (go_at_call 67; refine (c_spec_l13Legs _ _ _ _ (by first | assumption | exact Rds.below hx (by (repeat' (first | exact Below.refl _ _ | assumption | refine Below.setCell ?_ ?_ _ | refine Below.drew ?_ | refine Below.alloc ?_ ?_ _ | refine Below.trans ?_ (Below.mono (by assumption) ?_) | (simp; done) | (simp; omega) | omega)))) (by omega)).mono ?_; rintro e w' ⟨rfl, hb⟩; have hc := cellOf hb; have hf := frozOf hb; have hz := sizeOf hb; try simp at hz) | (go_at_call 68; refine (c_spec_l13Whole _ _ _ _ (by first | assumption | exact Rds.below hx (by (repeat' (first | exact Below.refl _ _ | assumption | refine Below.setCell ?_ ?_ _ | refine Below.drew ?_ | refine Below.alloc ?_ ?_ _ | refine Below.trans ?_ (Below.mono (by assumption) ?_) | (simp; done) | (simp; omega) | omega)))) (by omega)).mono ?_; rintro e w' ⟨rfl, hb⟩; have hc := cellOf hb; have hf := frozOf hb; have hz := sizeOf hb; try simp at hz))
    refine wp_region_w (n := 6) [] [5] (FS37_4_18 a b A xs cap c d w) rfl (by kernel_rfl) (fun _ _ d _ _ h => by cases d <;> exact h) ?_ ?_ ?_ ?_ ?_ ?_
    · intro iq
      match iq with
      | 0 | 1 | 2 | 3 | 4 => exact Stable.const _
      | 5 => exact Stable.fresh _ _
      | n + 6 => exact Stable.const _
    · intro iq hi v w1 hF
      have hcase : iq = 5 := by simpa using hi
      subst hcase
      exact Fresh.ltv hF
    · intro iq hi
      exact absurd hi (by simp)
    · intro iq o hi hl ho vals w1 hb1 hf
      exact absurd hl (by simp)
    · intro iq o hi hl ho vals w1 hb1 hf
      match iq, hi with
      | 0, _ =>
        injection ho with ho
        subst ho
        clear hl
        simp only [fillA, List.take, List.drop, put_none, Act.put, List.setIfInBounds_toArray, List.set_cons_zero, List.set_cons_succ, Nat.reduceAdd]
        clear hf
        have hc1 := cellOf hb1
        have hf1 := frozOf hb1
        have hz1 := sizeOf hb1
        try simp at hz1
        go_wp2_with (fail)
        exact RQ.mk rfl ⟨(by first | rfl | (simp [FS37_4_18]; done) | (simp [FS37_4_18, *]; done) | (simp [FS37_4_18, gotV]; done) | (simp [FS37_4_18, gotV]; omega)), fun h => absurd h (by decide)⟩ (Below.refl _ _)
      | 1, _ =>
        injection ho with ho
        subst ho
        clear hl
        simp only [fillA, List.take, List.drop, put_none, Act.put, List.setIfInBounds_toArray, List.set_cons_zero, List.set_cons_succ, Nat.reduceAdd]
        clear hf
        have hc1 := cellOf hb1
        have hf1 := frozOf hb1
        have hz1 := sizeOf hb1
        try simp at hz1
        go_wp2_with (fail)
        exact RQ.mk rfl ⟨(by first | rfl | (simp [FS37_4_18]; done) | (simp [FS37_4_18, *]; done) | (simp [FS37_4_18, gotV]; done) | (simp [FS37_4_18, gotV]; omega)), fun h => absurd h (by decide)⟩ (Below.refl _ _)
      | 2, _ =>
        injection ho with ho
        subst ho
        clear hl
        simp only [fillA, List.take, List.drop, put_none, Act.put, List.setIfInBounds_toArray, List.set_cons_zero, List.set_cons_succ, Nat.reduceAdd]
        clear hf
        have hc1 := cellOf hb1
        have hf1 := frozOf hb1
        have hz1 := sizeOf hb1
        try simp at hz1
        go_wp2_with (fail)
        exact RQ.mk rfl ⟨(by first | rfl | (simp [FS37_4_18]; done) | (simp [FS37_4_18, *]; done) | (simp [FS37_4_18, gotV]; done) | (simp [FS37_4_18, gotV]; omega)), fun h => absurd h (by decide)⟩ (Below.refl _ _)
      | 3, _ =>
        injection ho with ho
        subst ho
        clear hl
        simp only [fillA, List.take, List.drop, put_none, Act.put, List.setIfInBounds_toArray, List.set_cons_zero, List.set_cons_succ, Nat.reduceAdd]
        have f1 := hf 1 (by decide) (by kernel_rfl)
        generalize vals 1 = v1 at *
        subst f1
        have f2 := hf 2 (by decide) (by kernel_rfl)
        generalize vals 2 = v2 at *
        subst f2
        clear hf
        have hc1 := cellOf hb1
        have hf1 := frozOf hb1
        have hz1 := sizeOf hb1
        try simp at hz1
        go_wp2_with (first | (go_at_call 66; refine (c_spec_l13Before _ _ _ _ _ (by omega) (by omega) (by omega) (by omega)).mono ?_; rintro e w' ⟨rfl, hb⟩; have hc := cellOf hb; have hf := frozOf hb; have hz := sizeOf hb; try simp at hz))
        exact RQ.mk rfl ⟨(by first | rfl | (simp [FS37_4_18]; done) | (simp [FS37_4_18, *]; done) | (simp [FS37_4_18, gotV]; done) | (simp [FS37_4_18, gotV]; omega)), fun h => absurd h (by decide)⟩ (by (repeat' (first | exact Below.refl _ _ | assumption | refine Below.setCell ?_ ?_ _ | refine Below.drew ?_ | refine Below.alloc ?_ ?_ _ | refine Below.trans ?_ (Below.mono (by assumption) ?_) | (simp; done) | (simp; omega) | omega)))
      | 4, _ =>
        injection ho with ho
        subst ho
        clear hl
        simp only [fillA, List.take, List.drop, put_none, Act.put, List.setIfInBounds_toArray, List.set_cons_zero, List.set_cons_succ, Nat.reduceAdd]
        have f0 := hf 0 (by decide) (by kernel_rfl)
        generalize vals 0 = v0 at *
        subst f0
        have f3 := hf 3 (by decide) (by kernel_rfl)
        generalize vals 3 = v3 at *
        subst f3
        clear hf
        have hc1 := cellOf hb1
        have hf1 := frozOf hb1
        have hz1 := sizeOf hb1
        try simp at hz1
        go_wp2_with (first | (go_at_call 65; refine (c_spec_l13Common _ _ _ _ _ ).mono ?_; rintro e w' ⟨rfl, hb⟩; have hc := cellOf hb; have hf := frozOf hb; have hz := sizeOf hb; try simp at hz))
        exact RQ.mk rfl ⟨(by first | rfl | (simp [FS37_4_18]; done) | (simp [FS37_4_18, *]; done) | (simp [FS37_4_18, gotV]; done) | (simp [FS37_4_18, gotV]; omega)), fun h => absurd h (by decide)⟩ (by (repeat' (first | exact Below.refl _ _ | assumption | refine Below.setCell ?_ ?_ _ | refine Below.drew ?_ | refine Below.alloc ?_ ?_ _ | refine Below.trans ?_ (Below.mono (by assumption) ?_) | (simp; done) | (simp; omega) | omega)))
      | 5, _ =>
        injection ho with ho
        subst ho
        clear hl
        simp only [fillA, List.take, List.drop, put_none, Act.put, List.setIfInBounds_toArray, List.set_cons_zero, List.set_cons_succ, Nat.reduceAdd]
        clear hf
        have hc1 := cellOf hb1
        have hf1 := frozOf hb1
        have hz1 := sizeOf hb1
        try simp at hz1
        go_wp2_with (fail)
        exact RQ.mk rfl ⟨⟨_, rfl, (by first | omega | (simp; omega)), heap_alloc_new _ _⟩, fun _ => Nat.le_refl _⟩ (by (repeat' (first | exact Below.refl _ _ | assumption | refine Below.setCell ?_ ?_ _ | refine Below.drew ?_ | refine Below.alloc ?_ ?_ _ | refine Below.trans ?_ (Below.mono (by assumption) ?_) | (simp; done) | (simp; omega) | omega)))
    · intro vals V4 hb1 hf hd
      simp only [fillA, List.take, List.drop, put_none, Act.put, List.setIfInBounds_toArray, List.set_cons_zero, List.set_cons_succ, Nat.reduceAdd]
      clear hd
      have f0 := hf 0 (by decide)
      generalize vals 0 = v0 at *
      subst f0
      have f1 := hf 1 (by decide)
      generalize vals 1 = v1 at *
      subst f1
      have f2 := hf 2 (by decide)
      generalize vals 2 = v2 at *
      subst f2
      have f3 := hf 3 (by decide)
      generalize vals 3 = v3 at *
      subst f3
      have f4 := hf 4 (by decide)
      generalize vals 4 = v4 at *
      subst f4
      have f5 := hf 5 (by decide)
      generalize vals 5 = v5 at *
      obtain ⟨g2, rfl, hg2a, hg2b⟩ := f5
      try simp at hg2a
      clear hf
      have hc1 := cellOf hb1
      have hf1 := frozOf hb1
      have hz1 := sizeOf hb1
      try simp at hz1
      have hg2c := Fresh.lt hg2b
      have hg2d := Fresh.cell hg2b
      have hg2e := Fresh.froz hg2b
      have hg2f := Fresh.far hg2b
      have hg2g := Fresh.farz hg2b
      clear hg2b
      go_wp2_with (first | (go_at_call 55; refine (c_spec_l13Good _ _ _ ).mono ?_; rintro e w' ⟨rfl, hb⟩; have hc := cellOf hb; have hf := frozOf hb; have hz := sizeOf hb; try simp at hz) | (go_at_call 61; refine (c_spec_l13Leg _ _ _ ).mono ?_; rintro e w' ⟨rfl, hb⟩; have hc := cellOf hb; have hf := frozOf hb; have hz := sizeOf hb; try simp at hz) | (go_at_call 56; refine (c_spec_l8Minute _ _ ).mono ?_; rintro e w' ⟨rfl, hb⟩; have hc := cellOf hb; have hf := frozOf hb; have hz := sizeOf hb; try simp at hz) | (go_at_call 58; refine (c_spec_l1Most _ _ _ ).mono ?_; rintro e w' ⟨rfl, hb⟩; have hc := cellOf hb; have hf := frozOf hb; have hz := sizeOf hb; try simp at hz) | (go_at_call 60; refine (c_spec_l1Least _ _ _ ).mono ?_; rintro e w' ⟨rfl, hb⟩; have hc := cellOf hb; have hf := frozOf hb; have hz := sizeOf hb; try simp at hz) | (go_at_call 62; refine (c_spec_l13Checked _ _ _ ).mono ?_; rintro e w' ⟨rfl, hb⟩; have hc := cellOf hb; have hf := frozOf hb; have hz := sizeOf hb; try simp at hz) | (go_at_call 63; refine (c_spec_l13After _ _ _ _ _ (by omega) (by omega) (by omega) (by omega)).mono ?_; rintro e w' ⟨rfl, hb⟩; have hc := cellOf hb; have hf := frozOf hb; have hz := sizeOf hb; try simp at hz) | (go_at_call 66; refine (c_spec_l13Before _ _ _ _ _ (by omega) (by omega) (by omega) (by omega)).mono ?_; rintro e w' ⟨rfl, hb⟩; have hc := cellOf hb; have hf := frozOf hb; have hz := sizeOf hb; try simp at hz) | (go_at_call 65; refine (c_spec_l13Common _ _ _ _ _ ).mono ?_; rintro e w' ⟨rfl, hb⟩; have hc := cellOf hb; have hf := frozOf hb; have hz := sizeOf hb; try simp at hz) | (go_at_call 67; refine (c_spec_l13Legs _ _ _ _ (by first | assumption | exact Rds.below hx (by (repeat' (first | exact Below.refl _ _ | assumption | refine Below.setCell ?_ ?_ _ | refine Below.drew ?_ | refine Below.alloc ?_ ?_ _ | refine Below.trans ?_ (Below.mono (by assumption) ?_) | (simp; done) | (simp; omega) | omega)))) (by omega)).mono ?_; rintro e w' ⟨rfl, hb⟩; have hc := cellOf hb; have hf := frozOf hb; have hz := sizeOf hb; try simp at hz) | (go_at_call 68; refine (c_spec_l13Whole _ _ _ _ (by first | assumption | exact Rds.below hx (by (repeat' (first | exact Below.refl _ _ | assumption | refine Below.setCell ?_ ?_ _ | refine Below.drew ?_ | refine Below.alloc ?_ ?_ _ | refine Below.trans ?_ (Below.mono (by assumption) ?_) | (simp; done) | (simp; omega) | omega)))) (by omega)).mono ?_; rintro e w' ⟨rfl, hb⟩; have hc := cellOf hb; have hf := frozOf hb; have hz := sizeOf hb; try simp at hz))
      refine wp_region_w (n := 6) [] [5] (FS37_5_19 a b A xs cap c d w) rfl (by kernel_rfl) (fun _ _ d _ _ h => by cases d <;> exact h) ?_ ?_ ?_ ?_ ?_ ?_
      · intro iq
        match iq with
        | 0 | 1 | 2 | 3 | 4 => exact Stable.const _
        | 5 => exact Stable.fresh _ _
        | n + 6 => exact Stable.const _
      · intro iq hi v w1 hF
        have hcase : iq = 5 := by simpa using hi
        subst hcase
        exact Fresh.ltv hF
      · intro iq hi
        exact absurd hi (by simp)
      · intro iq o hi hl ho vals w1 hb1 hf
        exact absurd hl (by simp)
      · intro iq o hi hl ho vals w1 hb1 hf
        match iq, hi with
        | 0, _ =>
          injection ho with ho
          subst ho
          clear hl
          simp only [fillA, List.take, List.drop, put_none, Act.put, List.setIfInBounds_toArray, List.set_cons_zero, List.set_cons_succ, Nat.reduceAdd]
          clear hf
          have hc1 := cellOf hb1
          have hf1 := frozOf hb1
          have hz1 := sizeOf hb1
          try simp at hz1
          go_wp2_with (fail)
          exact RQ.mk rfl ⟨(by first | rfl | (simp [FS37_5_19]; done) | (simp [FS37_5_19, *]; done) | (simp [FS37_5_19, gotV]; done) | (simp [FS37_5_19, gotV]; omega)), fun h => absurd h (by decide)⟩ (Below.refl _ _)
        | 1, _ =>
          injection ho with ho
          subst ho
          clear hl
          simp only [fillA, List.take, List.drop, put_none, Act.put, List.setIfInBounds_toArray, List.set_cons_zero, List.set_cons_succ, Nat.reduceAdd]
          clear hf
          have hc1 := cellOf hb1
          have hf1 := frozOf hb1
          have hz1 := sizeOf hb1
          try simp at hz1
          go_wp2_with (fail)
          exact RQ.mk rfl ⟨(by first | rfl | (simp [FS37_5_19]; done) | (simp [FS37_5_19, *]; done) | (simp [FS37_5_19, gotV]; done) | (simp [FS37_5_19, gotV]; omega)), fun h => absurd h (by decide)⟩ (Below.refl _ _)
        | 2, _ =>
          injection ho with ho
          subst ho
          clear hl
          simp only [fillA, List.take, List.drop, put_none, Act.put, List.setIfInBounds_toArray, List.set_cons_zero, List.set_cons_succ, Nat.reduceAdd]
          clear hf
          have hc1 := cellOf hb1
          have hf1 := frozOf hb1
          have hz1 := sizeOf hb1
          try simp at hz1
          go_wp2_with (fail)
          exact RQ.mk rfl ⟨(by first | rfl | (simp [FS37_5_19]; done) | (simp [FS37_5_19, *]; done) | (simp [FS37_5_19, gotV]; done) | (simp [FS37_5_19, gotV]; omega)), fun h => absurd h (by decide)⟩ (Below.refl _ _)
        | 3, _ =>
          injection ho with ho
          subst ho
          clear hl
          simp only [fillA, List.take, List.drop, put_none, Act.put, List.setIfInBounds_toArray, List.set_cons_zero, List.set_cons_succ, Nat.reduceAdd]
          have f1 := hf 1 (by decide) (by kernel_rfl)
          generalize vals 1 = v1 at *
          subst f1
          have f2 := hf 2 (by decide) (by kernel_rfl)
          generalize vals 2 = v2 at *
          subst f2
          clear hf
          have hc1 := cellOf hb1
          have hf1 := frozOf hb1
          have hz1 := sizeOf hb1
          try simp at hz1
          go_wp2_with (first | (go_at_call 63; refine (c_spec_l13After _ _ _ _ _ (by omega) (by omega) (by omega) (by omega)).mono ?_; rintro e w' ⟨rfl, hb⟩; have hc := cellOf hb; have hf := frozOf hb; have hz := sizeOf hb; try simp at hz))
          exact RQ.mk rfl ⟨(by first | rfl | (simp [FS37_5_19]; done) | (simp [FS37_5_19, *]; done) | (simp [FS37_5_19, gotV]; done) | (simp [FS37_5_19, gotV]; omega)), fun h => absurd h (by decide)⟩ (by (repeat' (first | exact Below.refl _ _ | assumption | refine Below.setCell ?_ ?_ _ | refine Below.drew ?_ | refine Below.alloc ?_ ?_ _ | refine Below.trans ?_ (Below.mono (by assumption) ?_) | (simp; done) | (simp; omega) | omega)))
        | 4, _ =>
          injection ho with ho
          subst ho
          clear hl
          simp only [fillA, List.take, List.drop, put_none, Act.put, List.setIfInBounds_toArray, List.set_cons_zero, List.set_cons_succ, Nat.reduceAdd]
          have f0 := hf 0 (by decide) (by kernel_rfl)
          generalize vals 0 = v0 at *
          subst f0
          have f3 := hf 3 (by decide) (by kernel_rfl)
          generalize vals 3 = v3 at *
          subst f3
          clear hf
          have hc1 := cellOf hb1
          have hf1 := frozOf hb1
          have hz1 := sizeOf hb1
          try simp at hz1
          go_wp2_with (first | (go_at_call 65; refine (c_spec_l13Common _ _ _ _ _ ).mono ?_; rintro e w' ⟨rfl, hb⟩; have hc := cellOf hb; have hf := frozOf hb; have hz := sizeOf hb; try simp at hz))
          exact RQ.mk rfl ⟨(by first | rfl | (simp [FS37_5_19]; done) | (simp [FS37_5_19, *]; done) | (simp [FS37_5_19, gotV]; done) | (simp [FS37_5_19, gotV]; omega)), fun h => absurd h (by decide)⟩ (by (repeat' (first | exact Below.refl _ _ | assumption | refine Below.setCell ?_ ?_ _ | refine Below.drew ?_ | refine Below.alloc ?_ ?_ _ | refine Below.trans ?_ (Below.mono (by assumption) ?_) | (simp; done) | (simp; omega) | omega)))
        | 5, _ =>
          injection ho with ho
          subst ho
          clear hl
          simp only [fillA, List.take, List.drop, put_none, Act.put, List.setIfInBounds_toArray, List.set_cons_zero, List.set_cons_succ, Nat.reduceAdd]
          clear hf
          have hc1 := cellOf hb1
          have hf1 := frozOf hb1
          have hz1 := sizeOf hb1
          try simp at hz1
          go_wp2_with (fail)
          exact RQ.mk rfl ⟨⟨_, rfl, (by first | omega | (simp; omega)), heap_alloc_new _ _⟩, fun _ => Nat.le_refl _⟩ (by (repeat' (first | exact Below.refl _ _ | assumption | refine Below.setCell ?_ ?_ _ | refine Below.drew ?_ | refine Below.alloc ?_ ?_ _ | refine Below.trans ?_ (Below.mono (by assumption) ?_) | (simp; done) | (simp; omega) | omega)))
      · intro vals V5 hb1 hf hd
        simp only [fillA, List.take, List.drop, put_none, Act.put, List.setIfInBounds_toArray, List.set_cons_zero, List.set_cons_succ, Nat.reduceAdd]
        clear hd
        have f0 := hf 0 (by decide)
        generalize vals 0 = v0 at *
        subst f0
        have f1 := hf 1 (by decide)
        generalize vals 1 = v1 at *
        subst f1
        have f2 := hf 2 (by decide)
        generalize vals 2 = v2 at *
        subst f2
        have f3 := hf 3 (by decide)
        generalize vals 3 = v3 at *
        subst f3
        have f4 := hf 4 (by decide)
        generalize vals 4 = v4 at *
        subst f4
        have f5 := hf 5 (by decide)
        generalize vals 5 = v5 at *
        obtain ⟨g3, rfl, hg3a, hg3b⟩ := f5
        try simp at hg3a
        clear hf
        have hc1 := cellOf hb1
        have hf1 := frozOf hb1
        have hz1 := sizeOf hb1
        try simp at hz1
        have hg3c := Fresh.lt hg3b
        have hg3d := Fresh.cell hg3b
        have hg3e := Fresh.froz hg3b
        have hg3f := Fresh.far hg3b
        have hg3g := Fresh.farz hg3b
        clear hg3b
        go_wp2_with (first | (go_at_call 55; refine (c_spec_l13Good _ _ _ ).mono ?_; rintro e w' ⟨rfl, hb⟩; have hc := cellOf hb; have hf := frozOf hb; have hz := sizeOf hb; try simp at hz) | (go_at_call 61; refine (c_spec_l13Leg _ _ _ ).mono ?_; rintro e w' ⟨rfl, hb⟩; have hc := cellOf hb; have hf := frozOf hb; have hz := sizeOf hb; try simp at hz) | (go_at_call 56; refine (c_spec_l8Minute _ _ ).mono ?_; rintro e w' ⟨rfl, hb⟩; have hc := cellOf hb; have hf := frozOf hb; have hz := sizeOf hb; try simp at hz) | (go_at_call 58; refine (c_spec_l1Most _ _ _ ).mono ?_; rintro e w' ⟨rfl, hb⟩; have hc := cellOf hb; have hf := frozOf hb; have hz := sizeOf hb; try simp at hz) | (go_at_call 60; refine (c_spec_l1Least _ _ _ ).mono ?_; rintro e w' ⟨rfl, hb⟩; have hc := cellOf hb; have hf := frozOf hb; have hz := sizeOf hb; try simp at hz) | (go_at_call 62; refine (c_spec_l13Checked _ _ _ ).mono ?_; rintro e w' ⟨rfl, hb⟩; have hc := cellOf hb; have hf := frozOf hb; have hz := sizeOf hb; try simp at hz) | (go_at_call 63; refine (c_spec_l13After _ _ _ _ _ (by omega) (by omega) (by omega) (by omega)).mono ?_; rintro e w' ⟨rfl, hb⟩; have hc := cellOf hb; have hf := frozOf hb; have hz := sizeOf hb; try simp at hz) | (go_at_call 66; refine (c_spec_l13Before _ _ _ _ _ (by omega) (by omega) (by omega) (by omega)).mono ?_; rintro e w' ⟨rfl, hb⟩; have hc := cellOf hb; have hf := frozOf hb; have hz := sizeOf hb; try simp at hz) | (go_at_call 65; refine (c_spec_l13Common _ _ _ _ _ ).mono ?_; rintro e w' ⟨rfl, hb⟩; have hc := cellOf hb; have hf := frozOf hb; have hz := sizeOf hb; try simp at hz) | (go_at_call 67; refine (c_spec_l13Legs _ _ _ _ (by first | assumption | exact Rds.below hx (by (repeat' (first | exact Below.refl _ _ | assumption | refine Below.setCell ?_ ?_ _ | refine Below.drew ?_ | refine Below.alloc ?_ ?_ _ | refine Below.trans ?_ (Below.mono (by assumption) ?_) | (simp; done) | (simp; omega) | omega)))) (by omega)).mono ?_; rintro e w' ⟨rfl, hb⟩; have hc := cellOf hb; have hf := frozOf hb; have hz := sizeOf hb; try simp at hz) | (go_at_call 68; refine (c_spec_l13Whole _ _ _ _ (by first | assumption | exact Rds.below hx (by (repeat' (first | exact Below.refl _ _ | assumption | refine Below.setCell ?_ ?_ _ | refine Below.drew ?_ | refine Below.alloc ?_ ?_ _ | refine Below.trans ?_ (Below.mono (by assumption) ?_) | (simp; done) | (simp; omega) | omega)))) (by omega)).mono ?_; rintro e w' ⟨rfl, hb⟩; have hc := cellOf hb; have hf := frozOf hb; have hz := sizeOf hb; try simp at hz))
        all_goals
          refine bodyPost_ret (v := .tuple #[.agg #[.int .i64 ((narrowV a b xs c d).1.1.1), .int .i64 ((narrowV a b xs c d).1.1.2)], .agg #[.int .i64 ((narrowV a b xs c d).1.2.1), .int .i64 ((narrowV a b xs c d).1.2.2)], .bool ((narrowV a b xs c d).2)]) ?_ rfl ⟨rfl, ?_⟩
          · first | (simp [results, Try.results37, go_sem, ↓IntWalk.iteOmega, narrowV, *]; done) | (simp [results, Try.results37, go_sem, ↓IntWalk.iteOmega, narrowV, *]; omega) | (simp [results, Try.results37, go_sem, ↓IntWalk.iteOmega, narrowV, *]; simp_all [narrowV]; done)
          · (repeat' (first | exact Below.refl _ _ | assumption | refine Below.setCell ?_ ?_ _ | refine Below.drew ?_ | refine Below.alloc ?_ ?_ _ | refine Below.trans ?_ (Below.mono (by assumption) ?_) | (simp; done) | (simp; omega) | omega))
  go_enter Try.func37, Try.ntmps37
  go_wp2_with (first | (go_at_call 55; refine (c_spec_l13Good _ _ _ ).mono ?_; rintro e w' ⟨rfl, hb⟩; have hc := cellOf hb; have hf := frozOf hb; have hz := sizeOf hb; try simp at hz) | (go_at_call 61; refine (c_spec_l13Leg _ _ _ ).mono ?_; rintro e w' ⟨rfl, hb⟩; have hc := cellOf hb; have hf := frozOf hb; have hz := sizeOf hb; try simp at hz) | (go_at_call 56; refine (c_spec_l8Minute _ _ ).mono ?_; rintro e w' ⟨rfl, hb⟩; have hc := cellOf hb; have hf := frozOf hb; have hz := sizeOf hb; try simp at hz) | (go_at_call 58; refine (c_spec_l1Most _ _ _ ).mono ?_; rintro e w' ⟨rfl, hb⟩; have hc := cellOf hb; have hf := frozOf hb; have hz := sizeOf hb; try simp at hz) | (go_at_call 60; refine (c_spec_l1Least _ _ _ ).mono ?_; rintro e w' ⟨rfl, hb⟩; have hc := cellOf hb; have hf := frozOf hb; have hz := sizeOf hb; try simp at hz) | (go_at_call 62; refine (c_spec_l13Checked _ _ _ ).mono ?_; rintro e w' ⟨rfl, hb⟩; have hc := cellOf hb; have hf := frozOf hb; have hz := sizeOf hb; try simp at hz) | (go_at_call 63; refine (c_spec_l13After _ _ _ _ _ (by omega) (by omega) (by omega) (by omega)).mono ?_; rintro e w' ⟨rfl, hb⟩; have hc := cellOf hb; have hf := frozOf hb; have hz := sizeOf hb; try simp at hz) | (go_at_call 66; refine (c_spec_l13Before _ _ _ _ _ (by omega) (by omega) (by omega) (by omega)).mono ?_; rintro e w' ⟨rfl, hb⟩; have hc := cellOf hb; have hf := frozOf hb; have hz := sizeOf hb; try simp at hz) | (go_at_call 65; refine (c_spec_l13Common _ _ _ _ _ ).mono ?_; rintro e w' ⟨rfl, hb⟩; have hc := cellOf hb; have hf := frozOf hb; have hz := sizeOf hb; try simp at hz) | (go_at_call 67; refine (c_spec_l13Legs _ _ _ _ (by first | assumption | exact Rds.below hx (by (repeat' (first | exact Below.refl _ _ | assumption | refine Below.setCell ?_ ?_ _ | refine Below.drew ?_ | refine Below.alloc ?_ ?_ _ | refine Below.trans ?_ (Below.mono (by assumption) ?_) | (simp; done) | (simp; omega) | omega)))) (by omega)).mono ?_; rintro e w' ⟨rfl, hb⟩; have hc := cellOf hb; have hf := frozOf hb; have hz := sizeOf hb; try simp at hz) | (go_at_call 68; refine (c_spec_l13Whole _ _ _ _ (by first | assumption | exact Rds.below hx (by (repeat' (first | exact Below.refl _ _ | assumption | refine Below.setCell ?_ ?_ _ | refine Below.drew ?_ | refine Below.alloc ?_ ?_ _ | refine Below.trans ?_ (Below.mono (by assumption) ?_) | (simp; done) | (simp; omega) | omega)))) (by omega)).mono ?_; rintro e w' ⟨rfl, hb⟩; have hc := cellOf hb; have hf := frozOf hb; have hz := sizeOf hb; try simp at hz))
  refine wp_region_w (n := 6) [] [5] (FS37_4_20 a b A xs cap c d w) rfl (by kernel_rfl) (fun _ _ d _ _ h => by cases d <;> exact h) ?_ ?_ ?_ ?_ ?_ ?_
  · intro iq
    match iq with
    | 0 | 1 | 2 | 3 | 4 => exact Stable.const _
    | 5 => exact Stable.fresh _ _
    | n + 6 => exact Stable.const _
  · intro iq hi v w1 hF
    have hcase : iq = 5 := by simpa using hi
    subst hcase
    exact Fresh.ltv hF
  · intro iq hi
    exact absurd hi (by simp)
  · intro iq o hi hl ho vals w1 hb1 hf
    exact absurd hl (by simp)
  · intro iq o hi hl ho vals w1 hb1 hf
    match iq, hi with
    | 0, _ =>
      injection ho with ho
      subst ho
      clear hl
      simp only [fillA, List.take, List.drop, put_none, Act.put, List.setIfInBounds_toArray, List.set_cons_zero, List.set_cons_succ, Nat.reduceAdd]
      clear hf
      have hc1 := cellOf hb1
      have hf1 := frozOf hb1
      have hz1 := sizeOf hb1
      try simp at hz1
      go_wp2_with (fail)
      exact RQ.mk rfl ⟨(by first | rfl | (simp [FS37_4_20]; done) | (simp [FS37_4_20, *]; done) | (simp [FS37_4_20, gotV]; done) | (simp [FS37_4_20, gotV]; omega)), fun h => absurd h (by decide)⟩ (Below.refl _ _)
    | 1, _ =>
      injection ho with ho
      subst ho
      clear hl
      simp only [fillA, List.take, List.drop, put_none, Act.put, List.setIfInBounds_toArray, List.set_cons_zero, List.set_cons_succ, Nat.reduceAdd]
      clear hf
      have hc1 := cellOf hb1
      have hf1 := frozOf hb1
      have hz1 := sizeOf hb1
      try simp at hz1
      go_wp2_with (fail)
      exact RQ.mk rfl ⟨(by first | rfl | (simp [FS37_4_20]; done) | (simp [FS37_4_20, *]; done) | (simp [FS37_4_20, gotV]; done) | (simp [FS37_4_20, gotV]; omega)), fun h => absurd h (by decide)⟩ (Below.refl _ _)
    | 2, _ =>
      injection ho with ho
      subst ho
      clear hl
      simp only [fillA, List.take, List.drop, put_none, Act.put, List.setIfInBounds_toArray, List.set_cons_zero, List.set_cons_succ, Nat.reduceAdd]
      clear hf
      have hc1 := cellOf hb1
      have hf1 := frozOf hb1
      have hz1 := sizeOf hb1
      try simp at hz1
      go_wp2_with (fail)
      exact RQ.mk rfl ⟨(by first | rfl | (simp [FS37_4_20]; done) | (simp [FS37_4_20, *]; done) | (simp [FS37_4_20, gotV]; done) | (simp [FS37_4_20, gotV]; omega)), fun h => absurd h (by decide)⟩ (Below.refl _ _)
    | 3, _ =>
      injection ho with ho
      subst ho
      clear hl
      simp only [fillA, List.take, List.drop, put_none, Act.put, List.setIfInBounds_toArray, List.set_cons_zero, List.set_cons_succ, Nat.reduceAdd]
      have f1 := hf 1 (by decide) (by kernel_rfl)
      generalize vals 1 = v1 at *
      subst f1
      have f2 := hf 2 (by decide) (by kernel_rfl)
      generalize vals 2 = v2 at *
      subst f2
      clear hf
      have hc1 := cellOf hb1
      have hf1 := frozOf hb1
      have hz1 := sizeOf hb1
      try simp at hz1
      go_wp2_with (first | (go_at_call 66; refine (c_spec_l13Before _ _ _ _ _ (by omega) (by omega) (by omega) (by omega)).mono ?_; rintro e w' ⟨rfl, hb⟩; have hc := cellOf hb; have hf := frozOf hb; have hz := sizeOf hb; try simp at hz))
      exact RQ.mk rfl ⟨(by first | rfl | (simp [FS37_4_20]; done) | (simp [FS37_4_20, *]; done) | (simp [FS37_4_20, gotV]; done) | (simp [FS37_4_20, gotV]; omega)), fun h => absurd h (by decide)⟩ (by (repeat' (first | exact Below.refl _ _ | assumption | refine Below.setCell ?_ ?_ _ | refine Below.drew ?_ | refine Below.alloc ?_ ?_ _ | refine Below.trans ?_ (Below.mono (by assumption) ?_) | (simp; done) | (simp; omega) | omega)))
    | 4, _ =>
      injection ho with ho
      subst ho
      clear hl
      simp only [fillA, List.take, List.drop, put_none, Act.put, List.setIfInBounds_toArray, List.set_cons_zero, List.set_cons_succ, Nat.reduceAdd]
      have f0 := hf 0 (by decide) (by kernel_rfl)
      generalize vals 0 = v0 at *
      subst f0
      have f3 := hf 3 (by decide) (by kernel_rfl)
      generalize vals 3 = v3 at *
      subst f3
      clear hf
      have hc1 := cellOf hb1
      have hf1 := frozOf hb1
      have hz1 := sizeOf hb1
      try simp at hz1
      go_wp2_with (first | (go_at_call 65; refine (c_spec_l13Common _ _ _ _ _ ).mono ?_; rintro e w' ⟨rfl, hb⟩; have hc := cellOf hb; have hf := frozOf hb; have hz := sizeOf hb; try simp at hz))
      exact RQ.mk rfl ⟨(by first | rfl | (simp [FS37_4_20]; done) | (simp [FS37_4_20, *]; done) | (simp [FS37_4_20, gotV]; done) | (simp [FS37_4_20, gotV]; omega)), fun h => absurd h (by decide)⟩ (by (repeat' (first | exact Below.refl _ _ | assumption | refine Below.setCell ?_ ?_ _ | refine Below.drew ?_ | refine Below.alloc ?_ ?_ _ | refine Below.trans ?_ (Below.mono (by assumption) ?_) | (simp; done) | (simp; omega) | omega)))
    | 5, _ =>
      injection ho with ho
      subst ho
      clear hl
      simp only [fillA, List.take, List.drop, put_none, Act.put, List.setIfInBounds_toArray, List.set_cons_zero, List.set_cons_succ, Nat.reduceAdd]
      clear hf
      have hc1 := cellOf hb1
      have hf1 := frozOf hb1
      have hz1 := sizeOf hb1
      try simp at hz1
      go_wp2_with (fail)
      exact RQ.mk rfl ⟨⟨_, rfl, (by first | omega | (simp; omega)), heap_alloc_new _ _⟩, fun _ => Nat.le_refl _⟩ (by (repeat' (first | exact Below.refl _ _ | assumption | refine Below.setCell ?_ ?_ _ | refine Below.drew ?_ | refine Below.alloc ?_ ?_ _ | refine Below.trans ?_ (Below.mono (by assumption) ?_) | (simp; done) | (simp; omega) | omega)))
  · intro vals V4 hb1 hf hd
    simp only [fillA, List.take, List.drop, put_none, Act.put, List.setIfInBounds_toArray, List.set_cons_zero, List.set_cons_succ, Nat.reduceAdd]
    clear hd
    have f0 := hf 0 (by decide)
    generalize vals 0 = v0 at *
    subst f0
    have f1 := hf 1 (by decide)
    generalize vals 1 = v1 at *
    subst f1
    have f2 := hf 2 (by decide)
    generalize vals 2 = v2 at *
    subst f2
    have f3 := hf 3 (by decide)
    generalize vals 3 = v3 at *
    subst f3
    have f4 := hf 4 (by decide)
    generalize vals 4 = v4 at *
    subst f4
    have f5 := hf 5 (by decide)
    generalize vals 5 = v5 at *
    obtain ⟨g2, rfl, hg2a, hg2b⟩ := f5
    try simp at hg2a
    clear hf
    have hc1 := cellOf hb1
    have hf1 := frozOf hb1
    have hz1 := sizeOf hb1
    try simp at hz1
    have hg2c := Fresh.lt hg2b
    have hg2d := Fresh.cell hg2b
    have hg2e := Fresh.froz hg2b
    have hg2f := Fresh.far hg2b
    have hg2g := Fresh.farz hg2b
    clear hg2b
    go_wp2_with (first | (go_at_call 55; refine (c_spec_l13Good _ _ _ ).mono ?_; rintro e w' ⟨rfl, hb⟩; have hc := cellOf hb; have hf := frozOf hb; have hz := sizeOf hb; try simp at hz) | (go_at_call 61; refine (c_spec_l13Leg _ _ _ ).mono ?_; rintro e w' ⟨rfl, hb⟩; have hc := cellOf hb; have hf := frozOf hb; have hz := sizeOf hb; try simp at hz) | (go_at_call 56; refine (c_spec_l8Minute _ _ ).mono ?_; rintro e w' ⟨rfl, hb⟩; have hc := cellOf hb; have hf := frozOf hb; have hz := sizeOf hb; try simp at hz) | (go_at_call 58; refine (c_spec_l1Most _ _ _ ).mono ?_; rintro e w' ⟨rfl, hb⟩; have hc := cellOf hb; have hf := frozOf hb; have hz := sizeOf hb; try simp at hz) | (go_at_call 60; refine (c_spec_l1Least _ _ _ ).mono ?_; rintro e w' ⟨rfl, hb⟩; have hc := cellOf hb; have hf := frozOf hb; have hz := sizeOf hb; try simp at hz) | (go_at_call 62; refine (c_spec_l13Checked _ _ _ ).mono ?_; rintro e w' ⟨rfl, hb⟩; have hc := cellOf hb; have hf := frozOf hb; have hz := sizeOf hb; try simp at hz) | (go_at_call 63; refine (c_spec_l13After _ _ _ _ _ (by omega) (by omega) (by omega) (by omega)).mono ?_; rintro e w' ⟨rfl, hb⟩; have hc := cellOf hb; have hf := frozOf hb; have hz := sizeOf hb; try simp at hz) | (go_at_call 66; refine (c_spec_l13Before _ _ _ _ _ (by omega) (by omega) (by omega) (by omega)).mono ?_; rintro e w' ⟨rfl, hb⟩; have hc := cellOf hb; have hf := frozOf hb; have hz := sizeOf hb; try simp at hz) | (go_at_call 65; refine (c_spec_l13Common _ _ _ _ _ ).mono ?_; rintro e w' ⟨rfl, hb⟩; have hc := cellOf hb; have hf := frozOf hb; have hz := sizeOf hb; try simp at hz) | (go_at_call 67; refine (c_spec_l13Legs _ _ _ _ (by first | assumption | exact Rds.below hx (by (repeat' (first | exact Below.refl _ _ | assumption | refine Below.setCell ?_ ?_ _ | refine Below.drew ?_ | refine Below.alloc ?_ ?_ _ | refine Below.trans ?_ (Below.mono (by assumption) ?_) | (simp; done) | (simp; omega) | omega)))) (by omega)).mono ?_; rintro e w' ⟨rfl, hb⟩; have hc := cellOf hb; have hf := frozOf hb; have hz := sizeOf hb; try simp at hz) | (go_at_call 68; refine (c_spec_l13Whole _ _ _ _ (by first | assumption | exact Rds.below hx (by (repeat' (first | exact Below.refl _ _ | assumption | refine Below.setCell ?_ ?_ _ | refine Below.drew ?_ | refine Below.alloc ?_ ?_ _ | refine Below.trans ?_ (Below.mono (by assumption) ?_) | (simp; done) | (simp; omega) | omega)))) (by omega)).mono ?_; rintro e w' ⟨rfl, hb⟩; have hc := cellOf hb; have hf := frozOf hb; have hz := sizeOf hb; try simp at hz))
    refine wp_region_w (n := 6) [] [5] (FS37_5_21 a b A xs cap c d w) rfl (by kernel_rfl) (fun _ _ d _ _ h => by cases d <;> exact h) ?_ ?_ ?_ ?_ ?_ ?_
    · intro iq
      match iq with
      | 0 | 1 | 2 | 3 | 4 => exact Stable.const _
      | 5 => exact Stable.fresh _ _
      | n + 6 => exact Stable.const _
    · intro iq hi v w1 hF
      have hcase : iq = 5 := by simpa using hi
      subst hcase
      exact Fresh.ltv hF
    · intro iq hi
      exact absurd hi (by simp)
    · intro iq o hi hl ho vals w1 hb1 hf
      exact absurd hl (by simp)
    · intro iq o hi hl ho vals w1 hb1 hf
      match iq, hi with
      | 0, _ =>
        injection ho with ho
        subst ho
        clear hl
        simp only [fillA, List.take, List.drop, put_none, Act.put, List.setIfInBounds_toArray, List.set_cons_zero, List.set_cons_succ, Nat.reduceAdd]
        clear hf
        have hc1 := cellOf hb1
        have hf1 := frozOf hb1
        have hz1 := sizeOf hb1
        try simp at hz1
        go_wp2_with (fail)
        exact RQ.mk rfl ⟨(by first | rfl | (simp [FS37_5_21]; done) | (simp [FS37_5_21, *]; done) | (simp [FS37_5_21, gotV]; done) | (simp [FS37_5_21, gotV]; omega)), fun h => absurd h (by decide)⟩ (Below.refl _ _)
      | 1, _ =>
        injection ho with ho
        subst ho
        clear hl
        simp only [fillA, List.take, List.drop, put_none, Act.put, List.setIfInBounds_toArray, List.set_cons_zero, List.set_cons_succ, Nat.reduceAdd]
        clear hf
        have hc1 := cellOf hb1
        have hf1 := frozOf hb1
        have hz1 := sizeOf hb1
        try simp at hz1
        go_wp2_with (fail)
        exact RQ.mk rfl ⟨(by first | rfl | (simp [FS37_5_21]; done) | (simp [FS37_5_21, *]; done) | (simp [FS37_5_21, gotV]; done) | (simp [FS37_5_21, gotV]; omega)), fun h => absurd h (by decide)⟩ (Below.refl _ _)
      | 2, _ =>
        injection ho with ho
        subst ho
        clear hl
        simp only [fillA, List.take, List.drop, put_none, Act.put, List.setIfInBounds_toArray, List.set_cons_zero, List.set_cons_succ, Nat.reduceAdd]
        clear hf
        have hc1 := cellOf hb1
        have hf1 := frozOf hb1
        have hz1 := sizeOf hb1
        try simp at hz1
        go_wp2_with (fail)
        exact RQ.mk rfl ⟨(by first | rfl | (simp [FS37_5_21]; done) | (simp [FS37_5_21, *]; done) | (simp [FS37_5_21, gotV]; done) | (simp [FS37_5_21, gotV]; omega)), fun h => absurd h (by decide)⟩ (Below.refl _ _)
      | 3, _ =>
        injection ho with ho
        subst ho
        clear hl
        simp only [fillA, List.take, List.drop, put_none, Act.put, List.setIfInBounds_toArray, List.set_cons_zero, List.set_cons_succ, Nat.reduceAdd]
        have f1 := hf 1 (by decide) (by kernel_rfl)
        generalize vals 1 = v1 at *
        subst f1
        have f2 := hf 2 (by decide) (by kernel_rfl)
        generalize vals 2 = v2 at *
        subst f2
        clear hf
        have hc1 := cellOf hb1
        have hf1 := frozOf hb1
        have hz1 := sizeOf hb1
        try simp at hz1
        go_wp2_with (first | (go_at_call 63; refine (c_spec_l13After _ _ _ _ _ (by omega) (by omega) (by omega) (by omega)).mono ?_; rintro e w' ⟨rfl, hb⟩; have hc := cellOf hb; have hf := frozOf hb; have hz := sizeOf hb; try simp at hz))
        exact RQ.mk rfl ⟨(by first | rfl | (simp [FS37_5_21]; done) | (simp [FS37_5_21, *]; done) | (simp [FS37_5_21, gotV]; done) | (simp [FS37_5_21, gotV]; omega)), fun h => absurd h (by decide)⟩ (by (repeat' (first | exact Below.refl _ _ | assumption | refine Below.setCell ?_ ?_ _ | refine Below.drew ?_ | refine Below.alloc ?_ ?_ _ | refine Below.trans ?_ (Below.mono (by assumption) ?_) | (simp; done) | (simp; omega) | omega)))
      | 4, _ =>
        injection ho with ho
        subst ho
        clear hl
        simp only [fillA, List.take, List.drop, put_none, Act.put, List.setIfInBounds_toArray, List.set_cons_zero, List.set_cons_succ, Nat.reduceAdd]
        have f0 := hf 0 (by decide) (by kernel_rfl)
        generalize vals 0 = v0 at *
        subst f0
        have f3 := hf 3 (by decide) (by kernel_rfl)
        generalize vals 3 = v3 at *
        subst f3
        clear hf
        have hc1 := cellOf hb1
        have hf1 := frozOf hb1
        have hz1 := sizeOf hb1
        try simp at hz1
        go_wp2_with (first | (go_at_call 65; refine (c_spec_l13Common _ _ _ _ _ ).mono ?_; rintro e w' ⟨rfl, hb⟩; have hc := cellOf hb; have hf := frozOf hb; have hz := sizeOf hb; try simp at hz))
        exact RQ.mk rfl ⟨(by first | rfl | (simp [FS37_5_21]; done) | (simp [FS37_5_21, *]; done) | (simp [FS37_5_21, gotV]; done) | (simp [FS37_5_21, gotV]; omega)), fun h => absurd h (by decide)⟩ (by (repeat' (first | exact Below.refl _ _ | assumption | refine Below.setCell ?_ ?_ _ | refine Below.drew ?_ | refine Below.alloc ?_ ?_ _ | refine Below.trans ?_ (Below.mono (by assumption) ?_) | (simp; done) | (simp; omega) | omega)))
      | 5, _ =>
        injection ho with ho
        subst ho
        clear hl
        simp only [fillA, List.take, List.drop, put_none, Act.put, List.setIfInBounds_toArray, List.set_cons_zero, List.set_cons_succ, Nat.reduceAdd]
        clear hf
        have hc1 := cellOf hb1
        have hf1 := frozOf hb1
        have hz1 := sizeOf hb1
        try simp at hz1
        go_wp2_with (fail)
        exact RQ.mk rfl ⟨⟨_, rfl, (by first | omega | (simp; omega)), heap_alloc_new _ _⟩, fun _ => Nat.le_refl _⟩ (by (repeat' (first | exact Below.refl _ _ | assumption | refine Below.setCell ?_ ?_ _ | refine Below.drew ?_ | refine Below.alloc ?_ ?_ _ | refine Below.trans ?_ (Below.mono (by assumption) ?_) | (simp; done) | (simp; omega) | omega)))
    · intro vals V5 hb1 hf hd
      simp only [fillA, List.take, List.drop, put_none, Act.put, List.setIfInBounds_toArray, List.set_cons_zero, List.set_cons_succ, Nat.reduceAdd]
      clear hd
      have f0 := hf 0 (by decide)
      generalize vals 0 = v0 at *
      subst f0
      have f1 := hf 1 (by decide)
      generalize vals 1 = v1 at *
      subst f1
      have f2 := hf 2 (by decide)
      generalize vals 2 = v2 at *
      subst f2
      have f3 := hf 3 (by decide)
      generalize vals 3 = v3 at *
      subst f3
      have f4 := hf 4 (by decide)
      generalize vals 4 = v4 at *
      subst f4
      have f5 := hf 5 (by decide)
      generalize vals 5 = v5 at *
      obtain ⟨g3, rfl, hg3a, hg3b⟩ := f5
      try simp at hg3a
      clear hf
      have hc1 := cellOf hb1
      have hf1 := frozOf hb1
      have hz1 := sizeOf hb1
      try simp at hz1
      have hg3c := Fresh.lt hg3b
      have hg3d := Fresh.cell hg3b
      have hg3e := Fresh.froz hg3b
      have hg3f := Fresh.far hg3b
      have hg3g := Fresh.farz hg3b
      clear hg3b
      go_wp2_with (first | (go_at_call 55; refine (c_spec_l13Good _ _ _ ).mono ?_; rintro e w' ⟨rfl, hb⟩; have hc := cellOf hb; have hf := frozOf hb; have hz := sizeOf hb; try simp at hz) | (go_at_call 61; refine (c_spec_l13Leg _ _ _ ).mono ?_; rintro e w' ⟨rfl, hb⟩; have hc := cellOf hb; have hf := frozOf hb; have hz := sizeOf hb; try simp at hz) | (go_at_call 56; refine (c_spec_l8Minute _ _ ).mono ?_; rintro e w' ⟨rfl, hb⟩; have hc := cellOf hb; have hf := frozOf hb; have hz := sizeOf hb; try simp at hz) | (go_at_call 58; refine (c_spec_l1Most _ _ _ ).mono ?_; rintro e w' ⟨rfl, hb⟩; have hc := cellOf hb; have hf := frozOf hb; have hz := sizeOf hb; try simp at hz) | (go_at_call 60; refine (c_spec_l1Least _ _ _ ).mono ?_; rintro e w' ⟨rfl, hb⟩; have hc := cellOf hb; have hf := frozOf hb; have hz := sizeOf hb; try simp at hz) | (go_at_call 62; refine (c_spec_l13Checked _ _ _ ).mono ?_; rintro e w' ⟨rfl, hb⟩; have hc := cellOf hb; have hf := frozOf hb; have hz := sizeOf hb; try simp at hz) | (go_at_call 63; refine (c_spec_l13After _ _ _ _ _ (by omega) (by omega) (by omega) (by omega)).mono ?_; rintro e w' ⟨rfl, hb⟩; have hc := cellOf hb; have hf := frozOf hb; have hz := sizeOf hb; try simp at hz) | (go_at_call 66; refine (c_spec_l13Before _ _ _ _ _ (by omega) (by omega) (by omega) (by omega)).mono ?_; rintro e w' ⟨rfl, hb⟩; have hc := cellOf hb; have hf := frozOf hb; have hz := sizeOf hb; try simp at hz) | (go_at_call 65; refine (c_spec_l13Common _ _ _ _ _ ).mono ?_; rintro e w' ⟨rfl, hb⟩; have hc := cellOf hb; have hf := frozOf hb; have hz := sizeOf hb; try simp at hz) | (go_at_call 67; refine (c_spec_l13Legs _ _ _ _ (by first | assumption | exact Rds.below hx (by (repeat' (first | exact Below.refl _ _ | assumption | refine Below.setCell ?_ ?_ _ | refine Below.drew ?_ | refine Below.alloc ?_ ?_ _ | refine Below.trans ?_ (Below.mono (by assumption) ?_) | (simp; done) | (simp; omega) | omega)))) (by omega)).mono ?_; rintro e w' ⟨rfl, hb⟩; have hc := cellOf hb; have hf := frozOf hb; have hz := sizeOf hb; try simp at hz) | (go_at_call 68; refine (c_spec_l13Whole _ _ _ _ (by first | assumption | exact Rds.below hx (by (repeat' (first | exact Below.refl _ _ | assumption | refine Below.setCell ?_ ?_ _ | refine Below.drew ?_ | refine Below.alloc ?_ ?_ _ | refine Below.trans ?_ (Below.mono (by assumption) ?_) | (simp; done) | (simp; omega) | omega)))) (by omega)).mono ?_; rintro e w' ⟨rfl, hb⟩; have hc := cellOf hb; have hf := frozOf hb; have hz := sizeOf hb; try simp at hz))
      refine wp_named ?_
      intro W8 hW8
      have p0 : W8.cell? ⟨g2, 0, none⟩ = some (.int .i64 (max a (max 0 (c - (wholeW xs).2)))) := by rw [hW8]; first | (simp [go_sem, ↓IntWalk.iteOmega, *]; done) | (simp [go_sem, ↓IntWalk.iteOmega, *]; intros; omega) | (simp [go_sem, ↓IntWalk.iteOmega, asI, *]; done)
      have p1 : W8.cell? ⟨g2, 1, none⟩ = some (.int .i64 (min b (d - (wholeW xs).1))) := by rw [hW8]; first | (simp [go_sem, ↓IntWalk.iteOmega, *]; done) | (simp [go_sem, ↓IntWalk.iteOmega, *]; intros; omega) | (simp [go_sem, ↓IntWalk.iteOmega, asI, *]; done)
      have p2 : W8.cell? ⟨g3, 0, none⟩ = some (.int .i64 (max c (a + (wholeW xs).1))) := by rw [hW8]; first | (simp [go_sem, ↓IntWalk.iteOmega, *]; done) | (simp [go_sem, ↓IntWalk.iteOmega, *]; intros; omega) | (simp [go_sem, ↓IntWalk.iteOmega, asI, *]; done)
      have p3 : W8.cell? ⟨g3, 1, none⟩ = some (.int .i64 (min d (b + (wholeW xs).2))) := by rw [hW8]; first | (simp [go_sem, ↓IntWalk.iteOmega, *]; done) | (simp [go_sem, ↓IntWalk.iteOmega, *]; intros; omega) | (simp [go_sem, ↓IntWalk.iteOmega, asI, *]; done)
      have z4 : W8.frozen? ⟨w.heap.size + 2, 0, none⟩ = false := by rw [hW8]; first | (simp [go_sem, ↓IntWalk.iteOmega, *]; done) | (simp [go_sem, ↓IntWalk.iteOmega, *]; intros; omega) | (simp [go_sem, ↓IntWalk.iteOmega, asI, *]; done)
      have y5 : W8.cell? ⟨w.heap.size + 2, 0, none⟩ = some (.int .i64 0) := by rw [hW8]; first | (simp [go_sem, ↓IntWalk.iteOmega, *]; done) | (simp [go_sem, ↓IntWalk.iteOmega, *]; intros; omega) | (simp [go_sem, ↓IntWalk.iteOmega, asI, *]; done)
      have z6 : W8.frozen? ⟨w.heap.size + 2, 1, none⟩ = false := by rw [hW8]; first | (simp [go_sem, ↓IntWalk.iteOmega, *]; done) | (simp [go_sem, ↓IntWalk.iteOmega, *]; intros; omega) | (simp [go_sem, ↓IntWalk.iteOmega, asI, *]; done)
      have y7 : W8.cell? ⟨w.heap.size + 2, 1, none⟩ = some (.int .i64 0) := by rw [hW8]; first | (simp [go_sem, ↓IntWalk.iteOmega, *]; done) | (simp [go_sem, ↓IntWalk.iteOmega, *]; intros; omega) | (simp [go_sem, ↓IntWalk.iteOmega, asI, *]; done)
      have z8 : W8.frozen? ⟨w.heap.size + 3, 0, none⟩ = false := by rw [hW8]; first | (simp [go_sem, ↓IntWalk.iteOmega, *]; done) | (simp [go_sem, ↓IntWalk.iteOmega, *]; intros; omega) | (simp [go_sem, ↓IntWalk.iteOmega, asI, *]; done)
      have y9 : W8.cell? ⟨w.heap.size + 3, 0, none⟩ = some (.int .i64 0) := by rw [hW8]; first | (simp [go_sem, ↓IntWalk.iteOmega, *]; done) | (simp [go_sem, ↓IntWalk.iteOmega, *]; intros; omega) | (simp [go_sem, ↓IntWalk.iteOmega, asI, *]; done)
      have z10 : W8.frozen? ⟨w.heap.size + 3, 1, none⟩ = false := by rw [hW8]; first | (simp [go_sem, ↓IntWalk.iteOmega, *]; done) | (simp [go_sem, ↓IntWalk.iteOmega, *]; intros; omega) | (simp [go_sem, ↓IntWalk.iteOmega, asI, *]; done)
      have y11 : W8.cell? ⟨w.heap.size + 3, 1, none⟩ = some (.int .i64 0) := by rw [hW8]; first | (simp [go_sem, ↓IntWalk.iteOmega, *]; done) | (simp [go_sem, ↓IntWalk.iteOmega, *]; intros; omega) | (simp [go_sem, ↓IntWalk.iteOmega, asI, *]; done)
      have q0 : g2 ≠ w.heap.size + 2 := by omega
      have q1 : g2 ≠ w.heap.size + 3 := by omega
      have q2 : g3 ≠ w.heap.size + 2 := by omega
      have q3 : g3 ≠ w.heap.size + 3 := by omega
      have q4 : g2 ≠ g3 := by omega
      have q5 : w.heap.size + 2 ≠ w.heap.size + 3 := by omega
      have hb8 : Below w.heap.size w W8 := by rw [hW8]; (repeat' (first | exact Below.refl _ _ | assumption | refine Below.setCell ?_ ?_ _ | refine Below.drew ?_ | refine Below.alloc ?_ ?_ _ | refine Below.trans ?_ (Below.mono (by assumption) ?_) | (simp; done) | (simp; omega) | omega))
      clear hW8
      go_region
      all_goals go_wp2_with (fail)
      all_goals
        refine bodyPost_ret (v := .tuple #[.agg #[.int .i64 ((narrowV a b xs c d).1.1.1), .int .i64 ((narrowV a b xs c d).1.1.2)], .agg #[.int .i64 ((narrowV a b xs c d).1.2.1), .int .i64 ((narrowV a b xs c d).1.2.2)], .bool ((narrowV a b xs c d).2)]) ?_ rfl ⟨rfl, ?_⟩
        · first | (simp [results, Try.results37, go_sem, ↓IntWalk.iteOmega, narrowV, *]; done) | (simp [results, Try.results37, go_sem, ↓IntWalk.iteOmega, narrowV, *]; omega) | (simp [results, Try.results37, go_sem, ↓IntWalk.iteOmega, narrowV, *]; simp_all [narrowV]; done)
        · (repeat' (first | exact Below.refl _ _ | assumption | refine Below.setCell ?_ ?_ _ | refine Below.drew ?_ | refine Below.alloc ?_ ?_ _ | refine Below.trans ?_ (Below.mono (by assumption) ?_) | (simp; done) | (simp; omega) | omega))

end Go.Proofs.Ythlmeofjjmfpnaa
