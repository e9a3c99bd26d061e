import Derived.Test.YteciijnpfapmhaaK0
import Derived.Test.YteciijnpfapmhaaC1
namespace Go.Proofs.Yteciijnpfapmhaa
set_option linter.unusedSimpArgs false
set_option linter.unusedVariables false
open Go.RowKit

set_option maxRecDepth 100000 in
set_option maxHeartbeats 4000000 in
theorem c_impl_waits (A B : Option Addr) (rs pl : List Int) (cap cp0 : Nat) (w : World) (hr : Rds cIn 1 w A rs) (hp : Rds cIn 1 w B pl) (hn : rs.length ≤ 100000000) (hn2 : pl.length ≤ 9223372036854775807) (hrm : ∀ k (hk : k < rs.length), minP rs[k]) (hpm : ∀ k (hk : k < pl.length), minP pl[k]) :
    Calls Try.prog 65 #[.slice A rs.length cap, .slice B pl.length cp0] w fun e w' => ∃ A' cap', e = .returned (.slice A' (waitsL rs pl).length cap') ∧ FreshA cIn 1 3 w.heap.size w' A' cap' (waitsL rs pl) ∧ Below w.heap.size w w' := by
  obtain ⟨i0, hI0, hI1, hI2, hI3⟩ := info_parts info_In
  go_enter Try.func65, Try.ntmps65
  go_wp2_with (fail)
  go_loopw [5, 14] (fun v i wr => ∃ (k : Nat) (A' : Option Addr) (cp : Nat) (out : List Int), k ≤ rs.length ∧ i = .int .i64 k ∧ v = .slice A' k cp ∧ FreshA cIn 1 3 w.heap.size wr A' cp out ∧ out = waitsL (rs.take k) pl ∧ out.length = k ∧ Below w.heap.size w wr) (fun _ i _ => rs.length - (intOf i).toNat)
  case atStart => exact ⟨0, _, _, [], Nat.zero_le _, rfl, rfl, FreshA.emp (by (repeat' (first | exact Below.refl _ _ | assumption | refine Below.setCell ?_ ?_ _ | refine Below.drew ?_ | refine Below.alloc ?_ ?_ _ | refine Below.trans ?_ (Below.mono (by assumption) ?_) | (simp; done) | (simp; omega) | omega))), rfl, rfl, by (repeat' (first | exact Below.refl _ _ | assumption | refine Below.setCell ?_ ?_ _ | refine Below.drew ?_ | refine Below.alloc ?_ ?_ _ | refine Below.trans ?_ (Below.mono (by assumption) ?_) | (simp; done) | (simp; omega) | omega))⟩
  case round =>
    obtain ⟨k, A', cp, out, hk, rfl, rfl, hF, hT, hol, hbr⟩ := hrel
    have hlo := hF.lo
    have hhi := hF.hi
    have hc := cellOf hbr
    have hf := frozOf hbr
    have hz := sizeOf hbr
    have HOL := hid hol
    clear hol
    by_cases hlt : k < rs.length
    · obtain ⟨bx, ox, rfl, hbx, hcx⟩ := hr k rs[k] (List.getElem?_eq_getElem hlt)
      have hx0 := hcx 0 _ rfl
      simp only [Nat.add_zero, Nat.mul_one] at hx0
      have HS := hid (waitsL_snoc rs pl k hlt)
      have HT := hid hT
      have HF := hid hF
      have hmb := hrm k hlt
      clear hr hcx hT hF
      generalize rs[k] = m at *
      have HW := hid (waitO_bd (m := m) hmb hpm)
      go_wp2_with (fail)
      go_loopw [8, 20] (fun o i wv => ∃ q : Nat, q ≤ pl.length ∧ i = .int .i64 q ∧ o = .int .i64 (waitO (pl.take q) m) ∧ wv = wr) (fun _ i _ => pl.length - (intOf i).toNat)
      case atStart => exact ⟨0, Nat.zero_le _, rfl, rfl, rfl⟩
      case round =>
        obtain ⟨q, hq, rfl, rfl, rfl⟩ := hrel
        have hwb := HW.out q hq
        by_cases hql : q < pl.length
        · obtain ⟨by_, oy, rfl, hby, hcy⟩ := hp q pl[q] (List.getElem?_eq_getElem hql)
          have hy0 := hcy 0 _ rfl
          simp only [Nat.add_zero, Nat.mul_one] at hy0
          have HQ := hid (waitO_snoc pl m q hql)
          have htb := hpm q hql
          clear hcy hp hpm
          generalize pl[q] = t at *
          generalize waitO (pl.take q) m = own at *
          unfold minP at hmb htb
          by_cases h1 : m ≤ t
          · by_cases h2 : own < 0 ∨ t - m < own
            · have HQ2 := hid (HQ.out.trans (show waitS m own t = t - m by unfold waitS; rw [if_pos ⟨h1, h2⟩]))
              rcases h2 with h2 | h2
              · go_wp2_with (fail)
                go_roundw
                case rel => exact ⟨q + 1, by omega, by go_num, by rw [HQ2.out], by first | rfl | trivial⟩
                case measure => simp [intOf]; omega
              · by_cases h3 : own < 0
                · go_wp2_with (fail)
                  go_roundw
                  case rel => exact ⟨q + 1, by omega, by go_num, by rw [HQ2.out], by first | rfl | trivial⟩
                  case measure => simp [intOf]; omega
                · go_wp2_with (fail)
                  go_roundw
                  case rel => exact ⟨q + 1, by omega, by go_num, by rw [HQ2.out], by first | rfl | trivial⟩
                  case measure => simp [intOf]; omega
            · have HQ2 := hid (HQ.out.trans (show waitS m own t = own by unfold waitS; rw [if_neg (fun e => h2 e.2)]))
              have h3 : ¬ own < 0 := fun e => h2 (.inl e)
              have h4 : ¬ t - m < own := fun e => h2 (.inr e)
              clear h2
              go_wp2_with (fail)
              go_roundw
              case rel => exact ⟨q + 1, by omega, by go_num, by rw [HQ2.out], by first | rfl | trivial⟩
              case measure => simp [intOf]; omega
          · have HQ2 := hid (HQ.out.trans (show waitS m own t = own by unfold waitS; rw [if_neg (fun e => h1 e.1)]))
            go_wp2_with (fail)
            go_roundw
            case rel => exact ⟨q + 1, by omega, by go_num, by rw [HQ2.out], by first | rfl | trivial⟩
            case measure => simp [intOf]; omega
        · obtain rfl : q = pl.length := by omega
          rw [List.take_length]
          rw [List.take_length] at hwb
          generalize waitO pl m = own at *
          go_wp2_with ((at_builtin; refine wpList_push rfl (.tmp 42) (.tmp 44) 40 rfl 3 i0 _ 1 8 Try.underlying40 hI0 hI1 hI2 hI3 rfl (by decide) (fun _ => rfl) one_In (w.heap.size) A' k cp (out) HOL.out rfl (HF.out.below (by (repeat' (first | exact Below.refl _ _ | assumption | refine Below.setCell ?_ ?_ _ | refine Below.drew ?_ | refine Below.alloc ?_ ?_ _ | refine Below.trans ?_ (Below.mono (by assumption) ?_) | (simp; done) | (simp; omega) | omega)))) (own) _ 1 rfl ?_ ?_ ?_ ?_ ?_; (refine news_In _ _ _ ?_ <;> simp [go_sem, ↓IntWalk.iteOmega]); (unfold maxLen; omega); omega; (simp; omega); intro A3 cp3 w3 hF3 hg3 hat3; have hc3 := cellGrown hg3 hlo hhi; have hf3 := frozGrown hg3 hlo hhi; have hs3 := hg3.size; (try simp at hs3); have hb3 := below_of_grown (B := w.heap.size) hg3 (hlo.mono (by omega)) (by simp; omega)))
          go_roundw
          case rel => exact ⟨k + 1, A3, cp3, out ++ [own], by omega, by go_num, rfl, hF3, by rw [HS.out, HT.out], by simp [HOL.out], by (repeat' (first | exact Below.refl _ _ | assumption | refine Below.setCell ?_ ?_ _ | refine Below.drew ?_ | refine Below.alloc ?_ ?_ _ | refine Below.trans ?_ (Below.mono (by assumption) ?_) | (simp; done) | (simp; omega) | omega))⟩
          case measure => simp [intOf]; omega
    · obtain rfl : k = rs.length := by omega
      rw [List.take_length] at hT
      go_wp2_with (fail)
      go_ret
      exact ⟨A', cp, by simp [waitsL], by rw [← hT]; exact hF, by (repeat' (first | exact Below.refl _ _ | assumption | refine Below.setCell ?_ ?_ _ | refine Below.drew ?_ | refine Below.alloc ?_ ?_ _ | refine Below.trans ?_ (Below.mono (by assumption) ?_) | (simp; done) | (simp; omega) | omega))⟩

end Go.Proofs.Yteciijnpfapmhaa
