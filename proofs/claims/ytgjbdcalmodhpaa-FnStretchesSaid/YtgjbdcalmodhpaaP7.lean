import Derived.Test.YtgjbdcalmodhpaaPD
import Derived.Test.YtgjbdcalmodhpaaC1
namespace Go.Proofs.Ytgjbdcalmodhpaa
set_option linter.unusedSimpArgs false
set_option linter.unusedVariables false
open Go.RowKit

set_option maxHeartbeats 400000 in
theorem c_laws_toPassage (i : Int) (d : Bool) (a b : Int) (w : World)  :
    Calls Try.prog 14 #[.agg #[.int .i64 (i), .bool (d), .int .i64 (a), .int .i64 (b)]] w fun e w' => e = .returned (.agg #[.int .i64 (i), .bool (d), .int .i64 (a), .int .i64 (b)]) ∧ Below w.heap.size w w' := by
  go_enter Try.func14, Try.ntmps14
  go_wp2
  all_goals
    refine bodyPost_ret (v := .agg #[.int .i64 (i), .bool (d), .int .i64 (a), .int .i64 (b)]) ?_ rfl ⟨rfl, ?_⟩
    · first | (simp [results, Try.results14, go_sem, ↓IntWalk.iteOmega, *]; done) | (simp [results, Try.results14, go_sem, ↓IntWalk.iteOmega, *]; omega) | (simp [results, Try.results14, go_sem, ↓IntWalk.iteOmega, *]; simp_all []; done)
    · (repeat' (first | exact Below.refl _ _ | assumption | refine Below.setCell ?_ ?_ _ | refine Below.drew ?_ | refine Below.alloc ?_ ?_ _ | refine Below.trans ?_ (Below.mono (by assumption) ?_) | (simp; done) | (simp; omega) | omega))

set_option maxHeartbeats 2000000 in
theorem c_laws_eqPassage (i : Int) (d : Bool) (a b : Int) (i' : Int) (d' : Bool) (a' b' : Int) (w : World)  :
    Calls Try.prog 59 #[.agg #[.int .i64 (i), .bool (d), .int .i64 (a), .int .i64 (b)], .agg #[.int .i64 (i'), .bool (d'), .int .i64 (a'), .int .i64 (b')]] w fun e w' => e = .returned (.bool (eqPasB i d a b i' d' a' b')) ∧ Below w.heap.size w w' := by
  go_enter Try.func59, Try.ntmps59
  go_wp2
  all_goals go_ret
  all_goals
    refine ⟨ret_bool ?_, ?_⟩
    · first | rfl | omega | (simp [eqPasB]; done) | (simp [eqPasB]; omega) | (simp [eqPasB]; (repeat' split) <;> (first | omega | (simp; done) | (simp; omega))) | (simp_all [eqPasB]; done) | (simp_all [eqPasB]; omega)
    · (repeat' (first | exact Below.refl _ _ | assumption | refine Below.setCell ?_ ?_ _ | refine Below.drew ?_ | refine Below.alloc ?_ ?_ _ | refine Below.trans ?_ (Below.mono (by assumption) ?_) | (simp; done) | (simp; omega) | omega))

set_option maxHeartbeats 1000000 in
theorem c_laws_szPassageS (A : Option Addr) (n cap : Nat) (left : Int) (w : World) (hl : 0 ≤ left ∧ left ≤ 1048576) (hn : n ≤ 9223372036854775807) :
    Calls Try.prog 16 #[.slice A n cap, .int .i64 left] w fun e w' => e = .returned (.int .i64 (if left < n then -1 else left - n)) ∧ Below w.heap.size w w' := by
  go_enter Try.func16, Try.ntmps16
  go_wp2
  all_goals go_ret
  all_goals
    refine ⟨ret_int ?_, ?_⟩
    · first | rfl | rw [if_pos (by omega)] | rw [if_neg (by omega)]
    · exact Below.refl _ _

theorem info_laws_toPassageS : (Try.prog.info? 26).map (fun i => (i.zero, i.size, i.bytes)) = some (some (.agg #[.int .i64 (0), .bool (false), .int .i64 (0), .int .i64 (0)]), 4, 32) := by kernel_rfl

set_option maxHeartbeats 2000000 in
theorem c_laws_toPassageS (A : Option Addr) (xs : List (Int × Bool × Int × Int)) (cap : Nat) (w : World) (h0 : Rds cPas 4 w A xs) (hn : xs.length ≤ 1048576) :
    Calls Try.prog 18 #[.slice A xs.length cap] w fun e w' => ∃ g, e = .returned (.slice (some ⟨g, 0, none⟩) xs.length xs.length) ∧ w.heap.size ≤ g ∧ OwnS cPas 4 26 w' g xs.length xs ∧ Below w.heap.size w w' := by
  obtain ⟨i0, hi0, hz0, hz1, hz2⟩ := info_parts info_laws_toPassageS
  have hmk := fun w => make_run (P := Try.prog) 32 26 i0 _ Try.underlying32 hi0 hz0 xs.length (by rw [hz2]; omega) (by omega) w
  go_enter Try.func18, Try.ntmps18
  go_wp2_with (fail)
  go_loopw [4] (fun i wr => ∃ k : Nat, k ≤ xs.length ∧ i = .int .i64 k ∧ OwnS cPas 4 26 wr w.heap.size xs.length (xs.take k) ∧ Below w.heap.size w wr) (fun i _ => xs.length - (intOf i).toNat)
  case atStart =>
    refine ⟨0, Nat.zero_le _, rfl, ?_, (Below.refl _ _).alloc (Nat.le_refl _) _⟩
    exact ⟨_, heap_alloc_new _ _, by rw [size_madeCells]; (try rw [hz1]), Nat.zero_le _, by unfold maxLen; omega, fun i x hx => by simp at hx⟩
  case round =>
    obtain ⟨k, hk, rfl, hO, hbr⟩ := hrel
    clear hmk
    by_cases hlt : k < xs.length
    · obtain ⟨bx, ox, rfl, hbx, hcx⟩ := h0 k xs[k] (List.getElem?_eq_getElem hlt)
      have hx0 := hcx 0 _ rfl
      have hx1 := hcx 1 _ rfl
      have hx2 := hcx 2 _ rfl
      have hx3 := hcx 3 _ rfl
      simp only [Nat.add_zero] at hx0
      clear hcx h0
      have hc := cellOf hbr
      have hf := frozOf hbr
      have hz := sizeOf hbr
      have hlo := hO.lt
      obtain ⟨u0, hu0⟩ := hO.cell (k * 4) (by omega)
      have hu0' : far wr w.heap.size (k * 4) = some u0 := hu0
      clear hu0
      obtain ⟨u1, hu1⟩ := hO.cell (k * 4 + 1) (by omega)
      have hu1' : far wr w.heap.size (k * 4 + 1) = some u1 := hu1
      clear hu1
      obtain ⟨u2, hu2⟩ := hO.cell (k * 4 + 2) (by omega)
      have hu2' : far wr w.heap.size (k * 4 + 2) = some u2 := hu2
      clear hu2
      obtain ⟨u3, hu3⟩ := hO.cell (k * 4 + 3) (by omega)
      have hu3' : far wr w.heap.size (k * 4 + 3) = some u3 := hu3
      clear hu3
      have hfz : ∀ o, farz wr w.heap.size o = false := fun o => hO.frozen o
      have HO := hid hO
      clear hO
      go_wp2_with (go_at_call 14; refine (c_laws_toPassage _ _ _ _ _).mono ?_; rintro e w2 ⟨rfl, hb2⟩; have hc2 := cellOf hb2; have hf2 := frozOf hb2; have hz2 := sizeOf hb2)
      go_roundw
      case rel => exact ⟨k + 1, by omega, by go_num, OwnS.pushk (fun _ => rfl) (HO.out.below hb2) hlt (Nat.le_refl _) rfl, by (repeat' (first | exact Below.refl _ _ | assumption | refine Below.setCell ?_ ?_ _ | refine Below.drew ?_ | refine Below.alloc ?_ ?_ _ | refine Below.trans ?_ (Below.mono (by assumption) ?_) | (simp; done) | (simp; omega) | omega))⟩
      case measure => simp [intOf]; omega
    · obtain rfl : k = xs.length := by omega
      rw [List.take_length] at hO
      go_wp2_with (fail)
      go_ret
      exact ⟨_, rfl, Nat.le_refl _, hO, hbr⟩

end Go.Proofs.Ytgjbdcalmodhpaa
