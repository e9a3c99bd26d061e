import Derived.Test.YteciijnpfapmhaaK3
import Derived.Test.YteciijnpfapmhaaG6i
import Derived.Test.YteciijnpfapmhaaK9
namespace Go.Proofs.Yteciijnpfapmhaa
set_option linter.unusedSimpArgs false
set_option linter.unusedVariables false
open Go.RowKit

set_option maxRecDepth 100000 in
set_option maxHeartbeats 8000000 in
theorem c_impl_FewestOpenings (d : Int) (A : Option Addr) (xs : List (Int × Int)) (cap : Nat) (B : Option Addr) (rs : List Int) (capr : Nat) (p : Int) (w : World) (hx : Rds cIv 2 w A xs) (hn : xs.length ≤ 9223372036854775807) (hr : Rds cIn 1 w B rs) (hnr : rs.length ≤ 9223372036854775807) :
    Calls Try.prog 39 #[.agg #[.int .i64 d, .slice A xs.length cap], .slice B rs.length capr, .int .i64 p] w fun e w' => ∃ A' cap', e = .returned (.tuple #[.slice A' (fewV d xs rs p).1.length cap', .bool (fewV d xs rs p).2]) ∧ FreshA cIn 1 3 w.heap.size w' A' cap' (fewV d xs rs p).1 ∧ Below w.heap.size w w' := by
  obtain ⟨i0, hI0, hI1, hI2, hI3⟩ := info_parts info_In
  by_cases hs0 : reqB d xs rs p = true
  rotate_left
  · have hn0 : reqB d xs rs p = false := Bool.eq_false_iff.2 hs0
    have HV := hid (fewV_no hn0)
    clear hs0
    go_enter Try.func39, Try.ntmps39
    go_wp2_with (first | (go_at_call 63; refine (c_impl_areRequests _ _ _ _ _ _ _ _ _ (by first | assumption | exact Rds.below hx (by (repeat' (first | exact Below.refl _ _ | assumption | refine Below.setCell ?_ ?_ _ | refine Below.drew ?_ | refine Below.alloc ?_ ?_ _ | refine Below.trans ?_ (Below.mono (by assumption) ?_) | (simp; done) | (simp; omega) | omega)))) (by omega) (by first | assumption | exact Rds.below hr (by (repeat' (first | exact Below.refl _ _ | assumption | refine Below.setCell ?_ ?_ _ | refine Below.drew ?_ | refine Below.alloc ?_ ?_ _ | refine Below.trans ?_ (Below.mono (by assumption) ?_) | (simp; done) | (simp; omega) | omega)))) (by omega)).mono ?_; rintro e w' ⟨rfl, hb⟩; have hc := cellOf hb; have hf := frozOf hb; have hz := sizeOf hb; try simp at hz))
    go_ret2
    simp only [HV.out]
    exact ⟨none, 0, rfl, .inl ⟨rfl, rfl, rfl⟩, by (repeat' (first | exact Below.refl _ _ | assumption | refine Below.setCell ?_ ?_ _ | refine Below.drew ?_ | refine Below.alloc ?_ ?_ _ | refine Below.trans ?_ (Below.mono (by assumption) ?_) | (simp; done) | (simp; omega) | omega))⟩
  have hbr0 := reqB_br hs0
  have hdb := brB_dur hbr0
  have hok := brB_P hbr0
  have hrm := reqB_P hs0
  have hrl := vB_len (reqB_v hs0)
  have hpb := reqB_p hs0
  go_enter Try.func39, Try.ntmps39
  go_wp2_with (first | (go_at_call 63; refine (c_impl_areRequests _ _ _ _ _ _ _ _ _ (by first | assumption | exact Rds.below hx (by (repeat' (first | exact Below.refl _ _ | assumption | refine Below.setCell ?_ ?_ _ | refine Below.drew ?_ | refine Below.alloc ?_ ?_ _ | refine Below.trans ?_ (Below.mono (by assumption) ?_) | (simp; done) | (simp; omega) | omega)))) (by omega) (by first | assumption | exact Rds.below hr (by (repeat' (first | exact Below.refl _ _ | assumption | refine Below.setCell ?_ ?_ _ | refine Below.drew ?_ | refine Below.alloc ?_ ?_ _ | refine Below.trans ?_ (Below.mono (by assumption) ?_) | (simp; done) | (simp; omega) | omega)))) (by omega)).mono ?_; rintro e w' ⟨rfl, hb⟩; have hc := cellOf hb; have hf := frozOf hb; have hz := sizeOf hb; try simp at hz))
  go_loopw [8, 9, 23] (fun v f i wr => ∃ (k : Nat) (A' : Option Addr) (cp : Nat) (out : List Int) (r : Int), k ≤ rs.length ∧ i = .int .i64 k ∧ v = .slice A' out.length cp ∧ f = .int .i64 r ∧ FreshA cIn 1 3 (w.heap.size + 1) wr A' cp out ∧ fewTo d xs p rs k = some (out, r) ∧ fewOk d out r ∧ out.length ≤ k ∧ wr.cell? ⟨w.heap.size, 0, none⟩ = some (.int .i64 d) ∧ wr.cell? ⟨w.heap.size, 1, none⟩ = some (.slice A xs.length cap) ∧ w.heap.size + 1 ≤ wr.heap.size ∧ Below w.heap.size w wr) (fun _ _ i _ => rs.length - (intOf i).toNat)
  case atStart =>
    refine ⟨0, _, _, [], 0, Nat.zero_le _, rfl, rfl, rfl, FreshA.new (by first | omega | (simp; omega) | (simp at *; omega)), rfl, fewOk_nil d, Nat.zero_le _, ?_, ?_, ?_, by (repeat' (first | exact Below.refl _ _ | assumption | refine Below.setCell ?_ ?_ _ | refine Below.drew ?_ | refine Below.alloc ?_ ?_ _ | refine Below.trans ?_ (Below.mono (by assumption) ?_) | (simp; done) | (simp; omega) | omega))⟩
    all_goals first | (simp [go_sem, ↓IntWalk.iteOmega, *]; done) | (simp at *; omega) | (simp [go_sem, ↓IntWalk.iteOmega, *]; omega)
  case round =>
    obtain ⟨k, A', cp, out, r, hk, rfl, rfl, rfl, hF, hT, hfo, hol, hp0, hp1, hzz, hbr⟩ := hrel
    have hlo := hF.lo
    have hhi := hF.hi
    have hc := cellOf hbr
    have hf := frozOf hbr
    have hz := sizeOf hbr
    have hp0' : far wr w.heap.size 0 = _ := hp0
    have hp1' : far wr w.heap.size 1 = _ := hp1
    by_cases hlt : k < rs.length
    rotate_left
    · obtain rfl : k = rs.length := by omega
      have HV := hid (fewV_end hs0 hT)
      clear hT
      go_wp2_with (fail)
      go_ret2
      simp only [HV.out]
      exact ⟨_, _, rfl, hF.mono (by omega), by (repeat' (first | exact Below.refl _ _ | assumption | refine Below.setCell ?_ ?_ _ | refine Below.drew ?_ | refine Below.alloc ?_ ?_ _ | refine Below.trans ?_ (Below.mono (by assumption) ?_) | (simp; done) | (simp; omega) | omega))⟩
    obtain ⟨bx, ox, rfl, hbx, hcx⟩ := hr k rs[k] (List.getElem?_eq_getElem hlt)
    have hx0 := hcx 0 _ rfl
    simp only [Nat.add_zero, Nat.mul_one] at hx0
    have HN := hid (fewTo_next hlt hT)
    have hmb := hrm k hlt
    unfold minP at hmb
    have HZ := hid (fun e => fewV_stop (d := d) (xs := xs) (p := p) (rs := rs) (k := k + 1) (by omega) e)
    have HF := hid hF
    have HFO := hid hfo
    have hrb := hfo.2.2
    clear hcx hr hT hfo hrm
    obtain ⟨m, hmk⟩ : ∃ m, m = rs[k] := ⟨_, rfl⟩
    simp only [← hmk] at hx0 hmb HN
    clear hmk
    cases hq : out.length with
    | zero =>
      obtain rfl : out = [] := List.eq_nil_of_length_eq_zero hq
      have hno : ¬ 0 ≤ firstO ([] : List Int) m := by rw [firstO_nil]; omega
      have HNO := hid hno
      clear hq hno hF
      cases hlf : lastF d xs (max m r) (min (m + p) 9999) with
      | none =>
        have HV := hid (HZ.out (HN.out.trans (fewN_none HNO.out hlf)))
        clear HZ HN
        go_wp2_with (go_at_call 60; refine (c_impl_lastOpening _ _ xs _ _ _ _ _ (by first | assumption | exact Rds.below hx (by (repeat' (first | exact Below.refl _ _ | assumption | refine Below.setCell ?_ ?_ _ | refine Below.drew ?_ | refine Below.alloc ?_ ?_ _ | refine Below.trans ?_ (Below.mono (by assumption) ?_) | (simp; done) | (simp; omega) | omega)))) rfl (by omega) hok (by omega) (by omega)).mono ?_; simp only [hlf, lastR]; rintro e w' ⟨rfl, hb⟩; have hc := cellOf hb; have hf := frozOf hb; have hz := sizeOf hb; try simp at hz)
        go_ret2
        simp only [HV.out]
        exact ⟨none, 0, rfl, .inl ⟨rfl, rfl, rfl⟩, by (repeat' (first | exact Below.refl _ _ | assumption | refine Below.setCell ?_ ?_ _ | refine Below.drew ?_ | refine Below.alloc ?_ ?_ _ | refine Below.trans ?_ (Below.mono (by assumption) ?_) | (simp; done) | (simp; omega) | omega))⟩
      | some u =>
        have HS := hid (HN.out.trans (fewN_some HNO.out hlf))
        have hub := lastF_some hlf
        have hud := mayB_bd hub.2.2.1
        have hub2 : r ≤ u := by omega
        clear hub HZ HN
        go_wp2_with (first | (go_at_call 60; refine (c_impl_lastOpening _ _ xs _ _ _ _ _ (by first | assumption | exact Rds.below hx (by (repeat' (first | exact Below.refl _ _ | assumption | refine Below.setCell ?_ ?_ _ | refine Below.drew ?_ | refine Below.alloc ?_ ?_ _ | refine Below.trans ?_ (Below.mono (by assumption) ?_) | (simp; done) | (simp; omega) | omega)))) rfl (by omega) hok (by omega) (by omega)).mono ?_; simp only [hlf, lastR]; rintro e w' ⟨rfl, hb⟩; have hc := cellOf hb; have hf := frozOf hb; have hz := sizeOf hb; try simp at hz) | (at_builtin; refine wpList_push rfl (.tmp 54) (.tmp 56) 40 rfl 3 i0 _ 1 8 Try.underlying40 hI0 hI1 hI2 hI3 rfl (by decide) (fun _ => rfl) one_In ((w.heap.size + 1)) _ 0 cp (([] : List Int)) rfl rfl (HF.out.below (by (repeat' (first | exact Below.refl _ _ | assumption | refine Below.setCell ?_ ?_ _ | refine Below.drew ?_ | refine Below.alloc ?_ ?_ _ | refine Below.trans ?_ (Below.mono (by assumption) ?_) | (simp; done) | (simp; omega) | omega)))) (u) _ 1 rfl ?_ ?_ ?_ ?_ ?_; (refine news_In _ _ _ ?_ <;> simp [go_sem, ↓IntWalk.iteOmega]); (unfold maxLen; omega); omega; (simp; omega); intro A3 cp3 w3 hF3 hg3 hat3; have hc3 := cellGrown hg3 hlo hhi; have hf3 := frozGrown hg3 hlo hhi; have hs3 := hg3.size; (try simp at hs3); have hb3 := below_of_grown (B := w.heap.size) hg3 (hlo.mono (by omega)) (by simp; omega)))
        go_roundw
        case rel =>
          refine ⟨k + 1, A3, cp3, ([] : List Int) ++ [u], u + d, by omega, by go_num, by simp [List.length_nil], rfl, hF3, HS.out, fewOk_snoc HFO.out hdb.1 hub2 hud.2, by first | (simp [List.length_nil]; done) | (simp [List.length_nil]; omega), ?_, ?_, ?_, by (repeat' (first | exact Below.refl _ _ | assumption | refine Below.setCell ?_ ?_ _ | refine Below.drew ?_ | refine Below.alloc ?_ ?_ _ | refine Below.trans ?_ (Below.mono (by assumption) ?_) | (simp; done) | (simp; omega) | omega))⟩
          all_goals first | (simp [go_sem, ↓IntWalk.iteOmega, *]; done) | omega | (simp [go_sem, ↓IntWalk.iteOmega, *]; omega)
        case measure => simp [intOf]; omega
    | succ n =>
      have HQ := hid hq
      have HLE := hid (fewOk_last HFO.out hmb.1 n hq)
      have hy := hF.rds n out[n] (List.getElem?_eq_getElem (by omega))
      obtain ⟨by_, oy, rfl, hby, hcy⟩ := hy
      have hy0 := hcy 0 _ rfl
      simp only [Nat.add_zero, Nat.mul_one] at hy0
      have hyb := HFO.out.1 n (by omega)
      have hy0' : far wr by_ (oy + n) = _ := hy0
      have hbl : w.heap.size + 1 ≤ by_ := hlo _ rfl
      clear hcy hF
      generalize out[n] = y at *
      have hn8 : n ≤ 8 := by omega
      have hol2 : n + 1 ≤ k := by omega
      clear hol
      by_cases hmy : m ≤ y
      · have HS := hid (HN.out.trans (fewN_skip (HLE.out.2 hmy)))
        clear hq
        go_wp2_with (fail)
        go_roundw
        case rel =>
          refine ⟨k + 1, _, cp, out, r, by omega, by go_num, by rw [HQ.out], rfl, HF.out.below (by (repeat' (first | exact Below.refl _ _ | assumption | refine Below.setCell ?_ ?_ _ | refine Below.drew ?_ | refine Below.alloc ?_ ?_ _ | refine Below.trans ?_ (Below.mono (by assumption) ?_) | (simp; done) | (simp; omega) | omega))), HS.out, HFO.out, by rw [HQ.out]; omega, ?_, ?_, ?_, by (repeat' (first | exact Below.refl _ _ | assumption | refine Below.setCell ?_ ?_ _ | refine Below.drew ?_ | refine Below.alloc ?_ ?_ _ | refine Below.trans ?_ (Below.mono (by assumption) ?_) | (simp; done) | (simp; omega) | omega))⟩
          all_goals first | (simp [go_sem, ↓IntWalk.iteOmega, *]; done) | omega | (simp [go_sem, ↓IntWalk.iteOmega, *]; omega)
        case measure => simp [intOf]; omega
      · have hno : ¬ 0 ≤ firstO out m := fun e => hmy (HLE.out.1 e)
        have HNO := hid hno
        clear hno hq
        cases hlf : lastF d xs (max m r) (min (m + p) 9999) with
        | none =>
          have HV := hid (HZ.out (HN.out.trans (fewN_none HNO.out hlf)))
          clear HZ HN
          go_wp2_with (go_at_call 60; refine (c_impl_lastOpening _ _ xs _ _ _ _ _ (by first | assumption | exact Rds.below hx (by (repeat' (first | exact Below.refl _ _ | assumption | refine Below.setCell ?_ ?_ _ | refine Below.drew ?_ | refine Below.alloc ?_ ?_ _ | refine Below.trans ?_ (Below.mono (by assumption) ?_) | (simp; done) | (simp; omega) | omega)))) rfl (by omega) hok (by omega) (by omega)).mono ?_; simp only [hlf, lastR]; rintro e w' ⟨rfl, hb⟩; have hc := cellOf hb; have hf := frozOf hb; have hz := sizeOf hb; try simp at hz)
          go_ret2
          simp only [HV.out]
          exact ⟨none, 0, rfl, .inl ⟨rfl, rfl, rfl⟩, by (repeat' (first | exact Below.refl _ _ | assumption | refine Below.setCell ?_ ?_ _ | refine Below.drew ?_ | refine Below.alloc ?_ ?_ _ | refine Below.trans ?_ (Below.mono (by assumption) ?_) | (simp; done) | (simp; omega) | omega))⟩
        | some u =>
          have HS := hid (HN.out.trans (fewN_some HNO.out hlf))
          have hub := lastF_some hlf
          have hud := mayB_bd hub.2.2.1
          have hub2 : r ≤ u := by omega
          clear hub HZ HN
          go_wp2_with (first | (go_at_call 60; refine (c_impl_lastOpening _ _ xs _ _ _ _ _ (by first | assumption | exact Rds.below hx (by (repeat' (first | exact Below.refl _ _ | assumption | refine Below.setCell ?_ ?_ _ | refine Below.drew ?_ | refine Below.alloc ?_ ?_ _ | refine Below.trans ?_ (Below.mono (by assumption) ?_) | (simp; done) | (simp; omega) | omega)))) rfl (by omega) hok (by omega) (by omega)).mono ?_; simp only [hlf, lastR]; rintro e w' ⟨rfl, hb⟩; have hc := cellOf hb; have hf := frozOf hb; have hz := sizeOf hb; try simp at hz) | (at_builtin; refine wpList_push rfl (.tmp 54) (.tmp 56) 40 rfl 3 i0 _ 1 8 Try.underlying40 hI0 hI1 hI2 hI3 rfl (by decide) (fun _ => rfl) one_In ((w.heap.size + 1)) _ (n + 1) cp (out) HQ.out rfl (HF.out.below (by (repeat' (first | exact Below.refl _ _ | assumption | refine Below.setCell ?_ ?_ _ | refine Below.drew ?_ | refine Below.alloc ?_ ?_ _ | refine Below.trans ?_ (Below.mono (by assumption) ?_) | (simp; done) | (simp; omega) | omega)))) (u) _ 1 rfl ?_ ?_ ?_ ?_ ?_; (refine news_In _ _ _ ?_ <;> simp [go_sem, ↓IntWalk.iteOmega]); (unfold maxLen; omega); omega; (simp; omega); intro A3 cp3 w3 hF3 hg3 hat3; have hc3 := cellGrown hg3 hlo hhi; have hf3 := frozGrown hg3 hlo hhi; have hs3 := hg3.size; (try simp at hs3); have hb3 := below_of_grown (B := w.heap.size) hg3 (hlo.mono (by omega)) (by simp; omega)))
          go_roundw
          case rel =>
            refine ⟨k + 1, A3, cp3, out ++ [u], u + d, by omega, by go_num, by simp [HQ.out], rfl, hF3, HS.out, fewOk_snoc HFO.out hdb.1 hub2 hud.2, by first | (simp [HQ.out]; done) | (simp [HQ.out]; omega), ?_, ?_, ?_, by (repeat' (first | exact Below.refl _ _ | assumption | refine Below.setCell ?_ ?_ _ | refine Below.drew ?_ | refine Below.alloc ?_ ?_ _ | refine Below.trans ?_ (Below.mono (by assumption) ?_) | (simp; done) | (simp; omega) | omega))⟩
            all_goals first | (simp [go_sem, ↓IntWalk.iteOmega, *]; done) | omega | (simp [go_sem, ↓IntWalk.iteOmega, *]; omega)
          case measure => simp [intOf]; omega

end Go.Proofs.Yteciijnpfapmhaa
