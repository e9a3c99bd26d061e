import Derived.Test.YthlmeofjjmfpnaaT3
import Derived.Test.YthlmeofjjmfpnaaT4
namespace Go.Proofs.Ythlmeofjjmfpnaa
open Go.RowKit

set_option maxHeartbeats 2000000 in
theorem c_laws_FnExactIsInterval (a b : Int) (w : World)  :
    Calls Try.prog 3 #[.agg #[.int .i64 (a), .int .i64 (b)]] w fun e w' => e = .returned (.bool (true)) ∧ Below w.heap.size w w' := by
  have he := eqI_self
  go_enter Try.func3, Try.ntmps3
  go_wp2_with (first | (go_at_call 16; refine (c_laws_toInterval _ _ _ ).mono ?_; rintro e w' ⟨rfl, hb⟩; have hc := cellOf hb; have hf := frozOf hb; have hz := sizeOf hb; try simp at hz) | (go_at_call 17; refine (c_impl_IsInterval _ _ _ ).mono ?_; rintro e w' ⟨rfl, hb⟩; have hc := cellOf hb; have hf := frozOf hb; have hz := sizeOf hb; try simp at hz) | (go_at_call 15; refine (c_spec_IsInterval _ _ _ ).mono ?_; rintro e w' ⟨rfl, hb⟩; have hc := cellOf hb; have hf := frozOf hb; have hz := sizeOf hb; try simp at hz))
  all_goals go_ret
  all_goals
    refine ⟨ret_bool ?_, ?_⟩
    · first | rfl | omega | (simp []; done) | (simp []; omega) | (simp []; (repeat' split) <;> (first | omega | (simp; done) | (simp; omega))) | (simp_all []; done) | (simp_all []; omega)
    · (repeat' (first | exact Below.refl _ _ | assumption | refine Below.setCell ?_ ?_ _ | refine Below.drew ?_ | refine Below.alloc ?_ ?_ _ | refine Below.trans ?_ (Below.mono (by assumption) ?_) | (simp; done) | (simp; omega) | omega))

set_option maxHeartbeats 2000000 in
theorem c_laws_FnExactInTime (a b m : Int) (w : World)  :
    Calls Try.prog 4 #[.agg #[.int .i64 (a), .int .i64 (b)], .int .i64 (m)] w fun e w' => e = .returned (.bool (true)) ∧ Below w.heap.size w w' := by
  have he := eqI_self
  go_enter Try.func4, Try.ntmps4
  go_wp2_with (first | (go_at_call 16; refine (c_laws_toInterval _ _ _ ).mono ?_; rintro e w' ⟨rfl, hb⟩; have hc := cellOf hb; have hf := frozOf hb; have hz := sizeOf hb; try simp at hz) | (go_at_call 19; refine (c_impl_InTime _ _ _ _ ).mono ?_; rintro e w' ⟨rfl, hb⟩; have hc := cellOf hb; have hf := frozOf hb; have hz := sizeOf hb; try simp at hz) | (go_at_call 18; refine (c_spec_InTime _ _ _ _ ).mono ?_; rintro e w' ⟨rfl, hb⟩; have hc := cellOf hb; have hf := frozOf hb; have hz := sizeOf hb; try simp at hz))
  all_goals go_ret
  all_goals
    refine ⟨ret_bool ?_, ?_⟩
    · first | rfl | omega | (simp []; done) | (simp []; omega) | (simp []; (repeat' split) <;> (first | omega | (simp; done) | (simp; omega))) | (simp_all []; done) | (simp_all []; omega)
    · (repeat' (first | exact Below.refl _ _ | assumption | refine Below.setCell ?_ ?_ _ | refine Below.drew ?_ | refine Below.alloc ?_ ?_ _ | refine Below.trans ?_ (Below.mono (by assumption) ?_) | (simp; done) | (simp; omega) | omega))

set_option maxHeartbeats 2000000 in
theorem c_laws_FnExactNotBefore (a b m : Int) (w : World)  :
    Calls Try.prog 5 #[.agg #[.int .i64 (a), .int .i64 (b)], .int .i64 (m)] w fun e w' => e = .returned (.bool (true)) ∧ Below w.heap.size w w' := by
  have he := eqI_self
  go_enter Try.func5, Try.ntmps5
  go_wp2_with (first | (go_at_call 16; refine (c_laws_toInterval _ _ _ ).mono ?_; rintro e w' ⟨rfl, hb⟩; have hc := cellOf hb; have hf := frozOf hb; have hz := sizeOf hb; try simp at hz) | (go_at_call 21; refine (c_impl_NotBefore _ _ _ _ ).mono ?_; rintro e w' ⟨rfl, hb⟩; have hc := cellOf hb; have hf := frozOf hb; have hz := sizeOf hb; try simp at hz) | (go_at_call 20; refine (c_spec_NotBefore _ _ _ _ ).mono ?_; rintro e w' ⟨rfl, hb⟩; have hc := cellOf hb; have hf := frozOf hb; have hz := sizeOf hb; try simp at hz) | (go_at_call 22; refine (c_laws_eqInterval _ _ _ _ _ ).mono ?_; rintro e w' ⟨rfl, hb⟩; have hc := cellOf hb; have hf := frozOf hb; have hz := sizeOf hb; try simp at hz))
  all_goals go_ret
  all_goals
    refine ⟨ret_bool ?_, ?_⟩
    · first | rfl | omega | (simp []; done) | (simp []; omega) | (simp []; (repeat' split) <;> (first | omega | (simp; done) | (simp; omega))) | (simp_all []; done) | (simp_all []; omega)
    · (repeat' (first | exact Below.refl _ _ | assumption | refine Below.setCell ?_ ?_ _ | refine Below.drew ?_ | refine Below.alloc ?_ ?_ _ | refine Below.trans ?_ (Below.mono (by assumption) ?_) | (simp; done) | (simp; omega) | omega))

end Go.Proofs.Ythlmeofjjmfpnaa
