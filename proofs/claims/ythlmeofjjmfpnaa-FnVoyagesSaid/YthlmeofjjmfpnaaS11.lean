import Derived.Test.YthlmeofjjmfpnaaS10a
import Derived.Test.YthlmeofjjmfpnaaS8
import Derived.Test.YthlmeofjjmfpnaaT3
namespace Go.Proofs.Ythlmeofjjmfpnaa
set_option linter.unusedSimpArgs false
set_option linter.unusedVariables false
open Go.RowKit

set_option maxHeartbeats 8000000 in
theorem c_impl_NarrowVoyage (a b : Int) (A : Option Addr) (xs : List (Int × Int)) (cap : Nat) (c d : Int) (w : World) (hx : Rds cLeg 2 w A xs) (hn : xs.length ≤ 2000000) :
    Calls Try.prog 38 #[.agg #[.int .i64 (a), .int .i64 (b)], .slice A xs.length cap, .agg #[.int .i64 (c), .int .i64 (d)]] w fun e w' => e = .returned (.tuple #[.agg #[.int .i64 ((narrowV a b xs c d).1.1.1), .int .i64 ((narrowV a b xs c d).1.1.2)], .agg #[.int .i64 ((narrowV a b xs c d).1.2.1), .int .i64 ((narrowV a b xs c d).1.2.2)], .bool ((narrowV a b xs c d).2)]) ∧ Below w.heap.size w w' := by
  have kf0 : ∀ (a0 a1 : Value) (w : World), (Instr.field 39 (.agg #[a0, a1]) 0).run Try.prog w = .ok a0 w := fun _ _ _ => by kernel_rfl
  have kf1 : ∀ (a0 a1 : Value) (w : World), (Instr.field 39 (.agg #[a0, a1]) 1).run Try.prog w = .ok a1 w := fun _ _ _ => by kernel_rfl
  by_cases hs0 : goodI a b = true
  rotate_left
  · have hn : goodI a b = false := Bool.eq_false_iff.2 hs0
    clear hs0
    go_enter Try.func38, Try.ntmps38
    go_wp2_with (first | (go_at_call 17; refine (c_impl_IsInterval _ _ _ ).mono ?_; rintro e w' ⟨rfl, hb⟩; have hc := cellOf hb; have hf := frozOf hb; have hz := sizeOf hb; try simp at hz) | (go_at_call 64; refine (c_impl_isLeg _ _ _ ).mono ?_; rintro e w' ⟨rfl, hb⟩; have hc := cellOf hb; have hf := frozOf hb; have hz := sizeOf hb; try simp at hz) | (go_at_call 57; refine (c_impl_isMinute _ _ ).mono ?_; rintro e w' ⟨rfl, hb⟩; have hc := cellOf hb; have hf := frozOf hb; have hz := sizeOf hb; try simp at hz) | (go_at_call 59; refine (c_impl_asInterval _ _ _ ).mono ?_; rintro e w' ⟨rfl, hb⟩; have hc := cellOf hb; have hf := frozOf hb; have hz := sizeOf hb; try simp at hz) | (go_at_call 69; refine (c_impl_isVoyage _ _ _ _ (by first | assumption | exact Rds.below hx (by (repeat' (first | exact Below.refl _ _ | assumption | refine Below.setCell ?_ ?_ _ | refine Below.drew ?_ | refine Below.alloc ?_ ?_ _ | refine Below.trans ?_ (Below.mono (by assumption) ?_) | (simp; done) | (simp; omega) | omega)))) (by omega)).mono ?_; rintro e w' ⟨rfl, hb⟩; have hc := cellOf hb; have hf := frozOf hb; have hz := sizeOf hb; try simp at hz) | (go_at_call 70; refine (c_impl_wholeLeg _ _ _ _ (by first | assumption | exact Rds.below hx (by (repeat' (first | exact Below.refl _ _ | assumption | refine Below.setCell ?_ ?_ _ | refine Below.drew ?_ | refine Below.alloc ?_ ?_ _ | refine Below.trans ?_ (Below.mono (by assumption) ?_) | (simp; done) | (simp; omega) | omega)))) (by omega)).mono ?_; rintro e w' ⟨rfl, hb⟩; have hc := cellOf hb; have hf := frozOf hb; have hz := sizeOf hb; try simp at hz))
    all_goals
      refine bodyPost_ret (v := .tuple #[.agg #[.int .i64 ((narrowV a b xs c d).1.1.1), .int .i64 ((narrowV a b xs c d).1.1.2)], .agg #[.int .i64 ((narrowV a b xs c d).1.2.1), .int .i64 ((narrowV a b xs c d).1.2.2)], .bool ((narrowV a b xs c d).2)]) ?_ rfl ⟨rfl, ?_⟩
      · first | (simp [results, Try.results38, go_sem, ↓IntWalk.iteOmega, narrowV, *]; done) | (simp [results, Try.results38, go_sem, ↓IntWalk.iteOmega, narrowV, *]; omega) | (simp [results, Try.results38, go_sem, ↓IntWalk.iteOmega, narrowV, *]; simp_all [narrowV]; done)
      · (repeat' (first | exact Below.refl _ _ | assumption | refine Below.setCell ?_ ?_ _ | refine Below.drew ?_ | refine Below.alloc ?_ ?_ _ | refine Below.trans ?_ (Below.mono (by assumption) ?_) | (simp; done) | (simp; omega) | omega))
  have hbd0 := goodI_bd hs0
  by_cases hs1 : voyB xs = true
  rotate_left
  · have hn : voyB xs = false := Bool.eq_false_iff.2 hs1
    clear hs1
    go_enter Try.func38, Try.ntmps38
    go_wp2_with (first | (go_at_call 17; refine (c_impl_IsInterval _ _ _ ).mono ?_; rintro e w' ⟨rfl, hb⟩; have hc := cellOf hb; have hf := frozOf hb; have hz := sizeOf hb; try simp at hz) | (go_at_call 64; refine (c_impl_isLeg _ _ _ ).mono ?_; rintro e w' ⟨rfl, hb⟩; have hc := cellOf hb; have hf := frozOf hb; have hz := sizeOf hb; try simp at hz) | (go_at_call 57; refine (c_impl_isMinute _ _ ).mono ?_; rintro e w' ⟨rfl, hb⟩; have hc := cellOf hb; have hf := frozOf hb; have hz := sizeOf hb; try simp at hz) | (go_at_call 59; refine (c_impl_asInterval _ _ _ ).mono ?_; rintro e w' ⟨rfl, hb⟩; have hc := cellOf hb; have hf := frozOf hb; have hz := sizeOf hb; try simp at hz) | (go_at_call 69; refine (c_impl_isVoyage _ _ _ _ (by first | assumption | exact Rds.below hx (by (repeat' (first | exact Below.refl _ _ | assumption | refine Below.setCell ?_ ?_ _ | refine Below.drew ?_ | refine Below.alloc ?_ ?_ _ | refine Below.trans ?_ (Below.mono (by assumption) ?_) | (simp; done) | (simp; omega) | omega)))) (by omega)).mono ?_; rintro e w' ⟨rfl, hb⟩; have hc := cellOf hb; have hf := frozOf hb; have hz := sizeOf hb; try simp at hz) | (go_at_call 70; refine (c_impl_wholeLeg _ _ _ _ (by first | assumption | exact Rds.below hx (by (repeat' (first | exact Below.refl _ _ | assumption | refine Below.setCell ?_ ?_ _ | refine Below.drew ?_ | refine Below.alloc ?_ ?_ _ | refine Below.trans ?_ (Below.mono (by assumption) ?_) | (simp; done) | (simp; omega) | omega)))) (by omega)).mono ?_; rintro e w' ⟨rfl, hb⟩; have hc := cellOf hb; have hf := frozOf hb; have hz := sizeOf hb; try simp at hz))
    all_goals
      refine bodyPost_ret (v := .tuple #[.agg #[.int .i64 ((narrowV a b xs c d).1.1.1), .int .i64 ((narrowV a b xs c d).1.1.2)], .agg #[.int .i64 ((narrowV a b xs c d).1.2.1), .int .i64 ((narrowV a b xs c d).1.2.2)], .bool ((narrowV a b xs c d).2)]) ?_ rfl ⟨rfl, ?_⟩
      · first | (simp [results, Try.results38, go_sem, ↓IntWalk.iteOmega, narrowV, *]; done) | (simp [results, Try.results38, go_sem, ↓IntWalk.iteOmega, narrowV, *]; omega) | (simp [results, Try.results38, go_sem, ↓IntWalk.iteOmega, narrowV, *]; simp_all [narrowV]; done)
      · (repeat' (first | exact Below.refl _ _ | assumption | refine Below.setCell ?_ ?_ _ | refine Below.drew ?_ | refine Below.alloc ?_ ?_ _ | refine Below.trans ?_ (Below.mono (by assumption) ?_) | (simp; done) | (simp; omega) | omega))
  have hbd1 := voyB_bd hs1
  by_cases hs2 : goodI c d = true
  rotate_left
  · have hn : goodI c d = false := Bool.eq_false_iff.2 hs2
    clear hs2
    go_enter Try.func38, Try.ntmps38
    go_wp2_with (first | (go_at_call 17; refine (c_impl_IsInterval _ _ _ ).mono ?_; rintro e w' ⟨rfl, hb⟩; have hc := cellOf hb; have hf := frozOf hb; have hz := sizeOf hb; try simp at hz) | (go_at_call 64; refine (c_impl_isLeg _ _ _ ).mono ?_; rintro e w' ⟨rfl, hb⟩; have hc := cellOf hb; have hf := frozOf hb; have hz := sizeOf hb; try simp at hz) | (go_at_call 57; refine (c_impl_isMinute _ _ ).mono ?_; rintro e w' ⟨rfl, hb⟩; have hc := cellOf hb; have hf := frozOf hb; have hz := sizeOf hb; try simp at hz) | (go_at_call 59; refine (c_impl_asInterval _ _ _ ).mono ?_; rintro e w' ⟨rfl, hb⟩; have hc := cellOf hb; have hf := frozOf hb; have hz := sizeOf hb; try simp at hz) | (go_at_call 69; refine (c_impl_isVoyage _ _ _ _ (by first | assumption | exact Rds.below hx (by (repeat' (first | exact Below.refl _ _ | assumption | refine Below.setCell ?_ ?_ _ | refine Below.drew ?_ | refine Below.alloc ?_ ?_ _ | refine Below.trans ?_ (Below.mono (by assumption) ?_) | (simp; done) | (simp; omega) | omega)))) (by omega)).mono ?_; rintro e w' ⟨rfl, hb⟩; have hc := cellOf hb; have hf := frozOf hb; have hz := sizeOf hb; try simp at hz) | (go_at_call 70; refine (c_impl_wholeLeg _ _ _ _ (by first | assumption | exact Rds.below hx (by (repeat' (first | exact Below.refl _ _ | assumption | refine Below.setCell ?_ ?_ _ | refine Below.drew ?_ | refine Below.alloc ?_ ?_ _ | refine Below.trans ?_ (Below.mono (by assumption) ?_) | (simp; done) | (simp; omega) | omega)))) (by omega)).mono ?_; rintro e w' ⟨rfl, hb⟩; have hc := cellOf hb; have hf := frozOf hb; have hz := sizeOf hb; try simp at hz))
    all_goals
      refine bodyPost_ret (v := .tuple #[.agg #[.int .i64 ((narrowV a b xs c d).1.1.1), .int .i64 ((narrowV a b xs c d).1.1.2)], .agg #[.int .i64 ((narrowV a b xs c d).1.2.1), .int .i64 ((narrowV a b xs c d).1.2.2)], .bool ((narrowV a b xs c d).2)]) ?_ rfl ⟨rfl, ?_⟩
      · first | (simp [results, Try.results38, go_sem, ↓IntWalk.iteOmega, narrowV, *]; done) | (simp [results, Try.results38, go_sem, ↓IntWalk.iteOmega, narrowV, *]; omega) | (simp [results, Try.results38, go_sem, ↓IntWalk.iteOmega, narrowV, *]; simp_all [narrowV]; done)
      · (repeat' (first | exact Below.refl _ _ | assumption | refine Below.setCell ?_ ?_ _ | refine Below.drew ?_ | refine Below.alloc ?_ ?_ _ | refine Below.trans ?_ (Below.mono (by assumption) ?_) | (simp; done) | (simp; omega) | omega))
  have hbd2 := goodI_bd hs2
  by_cases hs3 : goodI (max a (max 0 (c - (wholeW xs).2))) (min b (d - (wholeW xs).1)) = true
  rotate_left
  · have hn : goodI (max a (max 0 (c - (wholeW xs).2))) (min b (d - (wholeW xs).1)) = false := Bool.eq_false_iff.2 hs3
    clear hs3
    have hm : max a (c - (wholeW xs).2) = max a (max 0 (c - (wholeW xs).2)) := by omega
    have hP : asI (max a (max 0 (c - (wholeW xs).2))) (min b (d - (wholeW xs).1)) = ((0, 0), false) := by simp [asI, hn]
    go_enter Try.func38, Try.ntmps38
    go_wp2_with (first | (go_at_call 17; refine (c_impl_IsInterval _ _ _ ).mono ?_; rintro e w' ⟨rfl, hb⟩; have hc := cellOf hb; have hf := frozOf hb; have hz := sizeOf hb; try simp at hz) | (go_at_call 64; refine (c_impl_isLeg _ _ _ ).mono ?_; rintro e w' ⟨rfl, hb⟩; have hc := cellOf hb; have hf := frozOf hb; have hz := sizeOf hb; try simp at hz) | (go_at_call 57; refine (c_impl_isMinute _ _ ).mono ?_; rintro e w' ⟨rfl, hb⟩; have hc := cellOf hb; have hf := frozOf hb; have hz := sizeOf hb; try simp at hz) | (go_at_call 59; refine (c_impl_asInterval _ _ _ ).mono ?_; rintro e w' ⟨rfl, hb⟩; have hc := cellOf hb; have hf := frozOf hb; have hz := sizeOf hb; try simp at hz) | (go_at_call 69; refine (c_impl_isVoyage _ _ _ _ (by first | assumption | exact Rds.below hx (by (repeat' (first | exact Below.refl _ _ | assumption | refine Below.setCell ?_ ?_ _ | refine Below.drew ?_ | refine Below.alloc ?_ ?_ _ | refine Below.trans ?_ (Below.mono (by assumption) ?_) | (simp; done) | (simp; omega) | omega)))) (by omega)).mono ?_; rintro e w' ⟨rfl, hb⟩; have hc := cellOf hb; have hf := frozOf hb; have hz := sizeOf hb; try simp at hz) | (go_at_call 70; refine (c_impl_wholeLeg _ _ _ _ (by first | assumption | exact Rds.below hx (by (repeat' (first | exact Below.refl _ _ | assumption | refine Below.setCell ?_ ?_ _ | refine Below.drew ?_ | refine Below.alloc ?_ ?_ _ | refine Below.trans ?_ (Below.mono (by assumption) ?_) | (simp; done) | (simp; omega) | omega)))) (by omega)).mono ?_; rintro e w' ⟨rfl, hb⟩; have hc := cellOf hb; have hf := frozOf hb; have hz := sizeOf hb; try simp at hz))
    all_goals
      refine bodyPost_ret (v := .tuple #[.agg #[.int .i64 ((narrowV a b xs c d).1.1.1), .int .i64 ((narrowV a b xs c d).1.1.2)], .agg #[.int .i64 ((narrowV a b xs c d).1.2.1), .int .i64 ((narrowV a b xs c d).1.2.2)], .bool ((narrowV a b xs c d).2)]) ?_ rfl ⟨rfl, ?_⟩
      · first | (simp [results, Try.results38, go_sem, ↓IntWalk.iteOmega, narrowV, *]; done) | (simp [results, Try.results38, go_sem, ↓IntWalk.iteOmega, narrowV, *]; omega) | (simp [results, Try.results38, go_sem, ↓IntWalk.iteOmega, narrowV, *]; simp_all [narrowV]; done)
      · (repeat' (first | exact Below.refl _ _ | assumption | refine Below.setCell ?_ ?_ _ | refine Below.drew ?_ | refine Below.alloc ?_ ?_ _ | refine Below.trans ?_ (Below.mono (by assumption) ?_) | (simp; done) | (simp; omega) | omega))
  by_cases hs4 : goodI (max c (a + (wholeW xs).1)) (min d (b + (wholeW xs).2)) = true
  rotate_left
  · have hn : goodI (max c (a + (wholeW xs).1)) (min d (b + (wholeW xs).2)) = false := Bool.eq_false_iff.2 hs4
    clear hs4
    have hm : max a (c - (wholeW xs).2) = max a (max 0 (c - (wholeW xs).2)) := by omega
    have hP : asI (max a (max 0 (c - (wholeW xs).2))) (min b (d - (wholeW xs).1)) = ((max a (max 0 (c - (wholeW xs).2)), min b (d - (wholeW xs).1)), true) := by simp [asI, hs3]
    have hQ : asI (max c (a + (wholeW xs).1)) (min d (b + (wholeW xs).2)) = ((0, 0), false) := by simp [asI, hn]
    go_enter Try.func38, Try.ntmps38
    go_wp2_with (first | (go_at_call 17; refine (c_impl_IsInterval _ _ _ ).mono ?_; rintro e w' ⟨rfl, hb⟩; have hc := cellOf hb; have hf := frozOf hb; have hz := sizeOf hb; try simp at hz) | (go_at_call 64; refine (c_impl_isLeg _ _ _ ).mono ?_; rintro e w' ⟨rfl, hb⟩; have hc := cellOf hb; have hf := frozOf hb; have hz := sizeOf hb; try simp at hz) | (go_at_call 57; refine (c_impl_isMinute _ _ ).mono ?_; rintro e w' ⟨rfl, hb⟩; have hc := cellOf hb; have hf := frozOf hb; have hz := sizeOf hb; try simp at hz) | (go_at_call 59; refine (c_impl_asInterval _ _ _ ).mono ?_; rintro e w' ⟨rfl, hb⟩; have hc := cellOf hb; have hf := frozOf hb; have hz := sizeOf hb; try simp at hz) | (go_at_call 69; refine (c_impl_isVoyage _ _ _ _ (by first | assumption | exact Rds.below hx (by (repeat' (first | exact Below.refl _ _ | assumption | refine Below.setCell ?_ ?_ _ | refine Below.drew ?_ | refine Below.alloc ?_ ?_ _ | refine Below.trans ?_ (Below.mono (by assumption) ?_) | (simp; done) | (simp; omega) | omega)))) (by omega)).mono ?_; rintro e w' ⟨rfl, hb⟩; have hc := cellOf hb; have hf := frozOf hb; have hz := sizeOf hb; try simp at hz) | (go_at_call 70; refine (c_impl_wholeLeg _ _ _ _ (by first | assumption | exact Rds.below hx (by (repeat' (first | exact Below.refl _ _ | assumption | refine Below.setCell ?_ ?_ _ | refine Below.drew ?_ | refine Below.alloc ?_ ?_ _ | refine Below.trans ?_ (Below.mono (by assumption) ?_) | (simp; done) | (simp; omega) | omega)))) (by omega)).mono ?_; rintro e w' ⟨rfl, hb⟩; have hc := cellOf hb; have hf := frozOf hb; have hz := sizeOf hb; try simp at hz))
    all_goals
      refine bodyPost_ret (v := .tuple #[.agg #[.int .i64 ((narrowV a b xs c d).1.1.1), .int .i64 ((narrowV a b xs c d).1.1.2)], .agg #[.int .i64 ((narrowV a b xs c d).1.2.1), .int .i64 ((narrowV a b xs c d).1.2.2)], .bool ((narrowV a b xs c d).2)]) ?_ rfl ⟨rfl, ?_⟩
      · first | (simp [results, Try.results38, go_sem, ↓IntWalk.iteOmega, narrowV, *]; done) | (simp [results, Try.results38, go_sem, ↓IntWalk.iteOmega, narrowV, *]; omega) | (simp [results, Try.results38, go_sem, ↓IntWalk.iteOmega, narrowV, *]; simp_all [narrowV]; done)
      · (repeat' (first | exact Below.refl _ _ | assumption | refine Below.setCell ?_ ?_ _ | refine Below.drew ?_ | refine Below.alloc ?_ ?_ _ | refine Below.trans ?_ (Below.mono (by assumption) ?_) | (simp; done) | (simp; omega) | omega))
  have hm : max a (c - (wholeW xs).2) = max a (max 0 (c - (wholeW xs).2)) := by omega
  have hP : asI (max a (max 0 (c - (wholeW xs).2))) (min b (d - (wholeW xs).1)) = ((max a (max 0 (c - (wholeW xs).2)), min b (d - (wholeW xs).1)), true) := by simp [asI, hs3]
  have hQ : asI (max c (a + (wholeW xs).1)) (min d (b + (wholeW xs).2)) = ((max c (a + (wholeW xs).1), min d (b + (wholeW xs).2)), true) := by simp [asI, hs4]
  go_enter Try.func38, Try.ntmps38
  go_wp2_with (fail)
  refine (c_impl_IsInterval _ _ _ ).mono ?_
  rintro e W1 ⟨rfl, hb1⟩
  have hc1 := cellOf hb1; have hf1 := frozOf hb1; have hz1 := sizeOf hb1
  try simp at hz1
  go_wp2_with (fail)
  refine (c_impl_isVoyage _ _ _ _ (by first | assumption | exact Rds.below hx (by (repeat' (first | exact Below.refl _ _ | assumption | refine Below.setCell ?_ ?_ _ | refine Below.drew ?_ | refine Below.alloc ?_ ?_ _ | refine Below.trans ?_ (Below.mono (by assumption) ?_) | (simp; done) | (simp; omega) | omega)))) (by omega)).mono ?_
  rintro e W2 ⟨rfl, hb2⟩
  have hc2 := cellOf hb2; have hf2 := frozOf hb2; have hz2 := sizeOf hb2
  try simp at hz2
  go_wp2_with (fail)
  refine (c_impl_IsInterval _ _ _ ).mono ?_
  rintro e W3 ⟨rfl, hb3⟩
  have hc3 := cellOf hb3; have hf3 := frozOf hb3; have hz3 := sizeOf hb3
  try simp at hz3
  go_wp2_with (fail)
  refine (c_impl_wholeLeg _ _ _ _ (by first | assumption | exact Rds.below hx (by (repeat' (first | exact Below.refl _ _ | assumption | refine Below.setCell ?_ ?_ _ | refine Below.drew ?_ | refine Below.alloc ?_ ?_ _ | refine Below.trans ?_ (Below.mono (by assumption) ?_) | (simp; done) | (simp; omega) | omega)))) (by omega)).mono ?_
  rintro e W4 ⟨rfl, hb4⟩
  have hc4 := cellOf hb4; have hf4 := frozOf hb4; have hz4 := sizeOf hb4
  try simp at hz4
  go_wp2_with (fail)
  refine (c_impl_asInterval _ _ _ ).mono ?_
  rintro e W5 ⟨rfl, hb5⟩
  have hc5 := cellOf hb5; have hf5 := frozOf hb5; have hz5 := sizeOf hb5
  try simp at hz5
  go_wp2_with (fail)
  refine (c_impl_asInterval _ _ _ ).mono ?_
  rintro e W6 ⟨rfl, hb6⟩
  have hc6 := cellOf hb6; have hf6 := frozOf hb6; have hz6 := sizeOf hb6
  try simp at hz6
  go_wp2_with (fail)
  refine wp_named ?_
  intro W8 hW8
  have p0 : W8.cell? ⟨W5.heap.size, 0, none⟩ = some (.int .i64 (max a (max 0 (c - (wholeW xs).2)))) := by rw [hW8]; first | (simp [go_sem, ↓IntWalk.iteOmega, *]; done) | (simp [go_sem, ↓IntWalk.iteOmega, *]; intros; omega) | (simp [go_sem, ↓IntWalk.iteOmega, asI, *]; done)
  have p1 : W8.cell? ⟨W5.heap.size, 1, none⟩ = some (.int .i64 (min b (d - (wholeW xs).1))) := by rw [hW8]; first | (simp [go_sem, ↓IntWalk.iteOmega, *]; done) | (simp [go_sem, ↓IntWalk.iteOmega, *]; intros; omega) | (simp [go_sem, ↓IntWalk.iteOmega, asI, *]; done)
  have p2 : W8.cell? ⟨W6.heap.size, 0, none⟩ = some (.int .i64 (max c (a + (wholeW xs).1))) := by rw [hW8]; first | (simp [go_sem, ↓IntWalk.iteOmega, *]; done) | (simp [go_sem, ↓IntWalk.iteOmega, *]; intros; omega) | (simp [go_sem, ↓IntWalk.iteOmega, asI, *]; done)
  have p3 : W8.cell? ⟨W6.heap.size, 1, none⟩ = some (.int .i64 (min d (b + (wholeW xs).2))) := by rw [hW8]; first | (simp [go_sem, ↓IntWalk.iteOmega, *]; done) | (simp [go_sem, ↓IntWalk.iteOmega, *]; intros; omega) | (simp [go_sem, ↓IntWalk.iteOmega, asI, *]; done)
  have z4 : W8.frozen? ⟨w.heap.size + 2, 0, none⟩ = false := by rw [hW8]; first | (simp [go_sem, ↓IntWalk.iteOmega, *]; done) | (simp [go_sem, ↓IntWalk.iteOmega, *]; intros; omega) | (simp [go_sem, ↓IntWalk.iteOmega, asI, *]; done)
  have y5 : W8.cell? ⟨w.heap.size + 2, 0, none⟩ = some (.int .i64 0) := by rw [hW8]; first | (simp [go_sem, ↓IntWalk.iteOmega, *]; done) | (simp [go_sem, ↓IntWalk.iteOmega, *]; intros; omega) | (simp [go_sem, ↓IntWalk.iteOmega, asI, *]; done)
  have z6 : W8.frozen? ⟨w.heap.size + 2, 1, none⟩ = false := by rw [hW8]; first | (simp [go_sem, ↓IntWalk.iteOmega, *]; done) | (simp [go_sem, ↓IntWalk.iteOmega, *]; intros; omega) | (simp [go_sem, ↓IntWalk.iteOmega, asI, *]; done)
  have y7 : W8.cell? ⟨w.heap.size + 2, 1, none⟩ = some (.int .i64 0) := by rw [hW8]; first | (simp [go_sem, ↓IntWalk.iteOmega, *]; done) | (simp [go_sem, ↓IntWalk.iteOmega, *]; intros; omega) | (simp [go_sem, ↓IntWalk.iteOmega, asI, *]; done)
  have z8 : W8.frozen? ⟨w.heap.size + 3, 0, none⟩ = false := by rw [hW8]; first | (simp [go_sem, ↓IntWalk.iteOmega, *]; done) | (simp [go_sem, ↓IntWalk.iteOmega, *]; intros; omega) | (simp [go_sem, ↓IntWalk.iteOmega, asI, *]; done)
  have y9 : W8.cell? ⟨w.heap.size + 3, 0, none⟩ = some (.int .i64 0) := by rw [hW8]; first | (simp [go_sem, ↓IntWalk.iteOmega, *]; done) | (simp [go_sem, ↓IntWalk.iteOmega, *]; intros; omega) | (simp [go_sem, ↓IntWalk.iteOmega, asI, *]; done)
  have z10 : W8.frozen? ⟨w.heap.size + 3, 1, none⟩ = false := by rw [hW8]; first | (simp [go_sem, ↓IntWalk.iteOmega, *]; done) | (simp [go_sem, ↓IntWalk.iteOmega, *]; intros; omega) | (simp [go_sem, ↓IntWalk.iteOmega, asI, *]; done)
  have y11 : W8.cell? ⟨w.heap.size + 3, 1, none⟩ = some (.int .i64 0) := by rw [hW8]; first | (simp [go_sem, ↓IntWalk.iteOmega, *]; done) | (simp [go_sem, ↓IntWalk.iteOmega, *]; intros; omega) | (simp [go_sem, ↓IntWalk.iteOmega, asI, *]; done)
  have q0 : W5.heap.size ≠ w.heap.size + 2 := by omega
  have q1 : W5.heap.size ≠ w.heap.size + 3 := by omega
  have q2 : W6.heap.size ≠ w.heap.size + 2 := by omega
  have q3 : W6.heap.size ≠ w.heap.size + 3 := by omega
  have q4 : W5.heap.size ≠ W6.heap.size := by omega
  have q5 : w.heap.size + 2 ≠ w.heap.size + 3 := by omega
  have hb8 : Below w.heap.size w W8 := by rw [hW8]; (repeat' (first | exact Below.refl _ _ | assumption | refine Below.setCell ?_ ?_ _ | refine Below.drew ?_ | refine Below.alloc ?_ ?_ _ | refine Below.trans ?_ (Below.mono (by assumption) ?_) | (simp; done) | (simp; omega) | omega))
  clear hW8 hc1 hf1 hb1 hc2 hf2 hb2 hc3 hf3 hb3 hc4 hf4 hb4 hc5 hf5 hb5 hc6 hf6 hb6
  go_region
  all_goals go_wp2_with (fail)
  all_goals
    refine bodyPost_ret (v := .tuple #[.agg #[.int .i64 ((narrowV a b xs c d).1.1.1), .int .i64 ((narrowV a b xs c d).1.1.2)], .agg #[.int .i64 ((narrowV a b xs c d).1.2.1), .int .i64 ((narrowV a b xs c d).1.2.2)], .bool ((narrowV a b xs c d).2)]) ?_ rfl ⟨rfl, ?_⟩
    · first | (simp [results, Try.results38, go_sem, ↓IntWalk.iteOmega, narrowV, hs0, hs1, hs2, hs3, hs4, *]; done) | (simp [results, Try.results38, go_sem, ↓IntWalk.iteOmega, *]; simp_all [narrowV]; done)
    · (repeat' (first | exact Below.refl _ _ | assumption | refine Below.setCell ?_ ?_ _ | refine Below.drew ?_ | refine Below.alloc ?_ ?_ _ | refine Below.trans ?_ (Below.mono (by assumption) ?_) | (simp; done) | (simp; omega) | omega))

end Go.Proofs.Ythlmeofjjmfpnaa
