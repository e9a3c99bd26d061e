import Derived.Test.YtpaclngjmdacjaaPuDefs
import Derived.Test.YtpaclngjmdacjaaC1
namespace Go.Proofs.Ytpaclngjmdacjaa
set_option linter.unusedSimpArgs false
set_option linter.unusedVariables false
open Go.RowKit

set_option maxRecDepth 100000 in
set_option maxHeartbeats 4000000 in
theorem c_spec_l12Good (l h v : Int) (A : Option Addr) (fs : List Int) (capf : Nat) (B : Option Addr) (ps : List (Int × Int × Int)) (capq : Nat) (w : World) (hx : Rds cIn 1 w A fs) (hn : fs.length ≤ 9223372036854775807) (hy : Rds cPu 3 w B ps) (hm : ps.length ≤ 9223372036854775807) :
    Calls Try.prog 58 #[.agg #[.int .i64 l, .int .i64 h, .int .i64 v, .slice A fs.length capf, .slice B ps.length capq]] w fun e w' => e = .returned (.bool (taskB l h v fs ps)) ∧ Below w.heap.size w w' := by
  go_enter Try.func58, Try.ntmps58
  go_wp2_with (fail)
  go_loopw [3] (fun i wr => ∃ k : Nat, k ≤ fs.length ∧ i = .int .i64 k ∧ (fs.take k).all flOk = true ∧ wr.cell? ⟨w.heap.size, 0, none⟩ = some (.int .i64 l) ∧ wr.cell? ⟨w.heap.size, 1, none⟩ = some (.int .i64 h) ∧ wr.cell? ⟨w.heap.size, 2, none⟩ = some (.int .i64 v) ∧ wr.cell? ⟨w.heap.size, 3, none⟩ = some (.slice A fs.length capf) ∧ wr.cell? ⟨w.heap.size, 4, none⟩ = some (.slice B ps.length capq) ∧ w.heap.size + 1 ≤ wr.heap.size ∧ Below w.heap.size w wr) (fun i _ => fs.length - (intOf i).toNat)
  case atStart =>
    refine ⟨0, Nat.zero_le _, rfl, rfl, ?_, ?_, ?_, ?_, ?_, ?_, by (repeat' (first | exact Below.refl _ _ | assumption | refine Below.setCell ?_ ?_ _ | refine Below.drew ?_ | refine Below.alloc ?_ ?_ _ | refine Below.trans ?_ (Below.mono (by assumption) ?_) | (simp; done) | (simp; omega) | omega))⟩
    all_goals first | (simp [go_sem, ↓IntWalk.iteOmega, *]; done) | (simp at *; omega)
  case round =>
    obtain ⟨k, hk, rfl, han, hp0, hp1, hp2, hp3, hp4, hzz, hbr⟩ := hrel
    have hc := cellOf hbr
    have hf := frozOf hbr
    have hz := sizeOf hbr
    have hp0' : far _ _ _ = _ := hp0
    have hp1' : far _ _ _ = _ := hp1
    have hp2' : far _ _ _ = _ := hp2
    have hp3' : far _ _ _ = _ := hp3
    have hp4' : far _ _ _ = _ := hp4
    by_cases hlt : k < fs.length
    · obtain ⟨bx, ox, rfl, hbx, hcx⟩ := hx k fs[k] (List.getElem?_eq_getElem hlt)
      have hx0 := hcx 0 _ rfl
      simp only [Nat.add_zero, Nat.mul_one] at hx0
      have HS := hid (all_snoc flOk fs k hlt)
      have HA := hid han
      have HM := hid (fun e => all_miss (p := flOk) hlt e)
      clear hcx hx han
      generalize fs[k] = x at *
      by_cases hg : inB x (-50) 50 = true
      · have HG : Hid (flOk x = true) := hg
        clear HM
        go_wp2_with (first | (go_at_call 59; refine (c_spec_l1In _ _ _ _ ).mono ?_; rintro e w' ⟨rfl, hb⟩; have hc := cellOf hb; have hf := frozOf hb; have hz := sizeOf hb; try simp at hz))
        go_roundw
        case rel =>
          refine ⟨k + 1, by omega, by go_num, by rw [HS.out, HA.out, HG.out]; rfl, ?_, ?_, ?_, ?_, ?_, ?_, by (repeat' (first | exact Below.refl _ _ | assumption | refine Below.setCell ?_ ?_ _ | refine Below.drew ?_ | refine Below.alloc ?_ ?_ _ | refine Below.trans ?_ (Below.mono (by assumption) ?_) | (simp; done) | (simp; omega) | omega))⟩
          all_goals first | (simp [go_sem, ↓IntWalk.iteOmega, *]; done) | (simp [go_sem, ↓IntWalk.iteOmega, *]; omega) | omega
        case measure => simp [intOf]; omega
      · have hgf : inB x (-50) 50 = false := by simpa using hg
        have HV := hid (show taskB l h v fs ps = false by rw [taskB, HM.out hgf]; simp)
        clear hg HM
        go_wp2_with (first | (go_at_call 59; refine (c_spec_l1In _ _ _ _ ).mono ?_; rintro e w' ⟨rfl, hb⟩; have hc := cellOf hb; have hf := frozOf hb; have hz := sizeOf hb; try simp at hz))
        go_ret
        exact ⟨ret_bool (by rw [HV.out]), by (repeat' (first | exact Below.refl _ _ | assumption | refine Below.setCell ?_ ?_ _ | refine Below.drew ?_ | refine Below.alloc ?_ ?_ _ | refine Below.trans ?_ (Below.mono (by assumption) ?_) | (simp; done) | (simp; omega) | omega))⟩
    obtain rfl : k = fs.length := by omega
    rw [List.take_length] at han
    have HFL := hid han
    clear han hx
    go_wp2_with (fail)
    go_loopw [4] (fun i wv => ∃ q : Nat, q ≤ ps.length ∧ i = .int .i64 q ∧ (ps.take q).all puOk = true ∧ wv.cell? ⟨w.heap.size, 0, none⟩ = some (.int .i64 l) ∧ wv.cell? ⟨w.heap.size, 1, none⟩ = some (.int .i64 h) ∧ wv.cell? ⟨w.heap.size, 2, none⟩ = some (.int .i64 v) ∧ wv.cell? ⟨w.heap.size, 3, none⟩ = some (.slice A fs.length capf) ∧ wv.cell? ⟨w.heap.size, 4, none⟩ = some (.slice B ps.length capq) ∧ w.heap.size + 1 ≤ wv.heap.size ∧ Below w.heap.size w wv) (fun i _ => ps.length - (intOf i).toNat)
    case atStart =>
      refine ⟨0, Nat.zero_le _, rfl, rfl, ?_, ?_, ?_, ?_, ?_, ?_, by (repeat' (first | exact Below.refl _ _ | assumption | refine Below.setCell ?_ ?_ _ | refine Below.drew ?_ | refine Below.alloc ?_ ?_ _ | refine Below.trans ?_ (Below.mono (by assumption) ?_) | (simp; done) | (simp; omega) | omega))⟩
      all_goals first | (simp [go_sem, ↓IntWalk.iteOmega, *]; done) | (simp at *; omega) | assumption
    case round =>
      obtain ⟨q, hq, rfl, han, hp0, hp1, hp2, hp3, hp4, hzz, hbv⟩ := hrel
      clear hc hf hz
      have hc := cellOf hbv
      have hf := frozOf hbv
      have hz := sizeOf hbv
      have hp0' : far _ _ _ = _ := hp0
      have hp1' : far _ _ _ = _ := hp1
      have hp2' : far _ _ _ = _ := hp2
      have hp3' : far _ _ _ = _ := hp3
      have hp4' : far _ _ _ = _ := hp4
      by_cases hlt : q < ps.length
      · obtain ⟨bx, ox, rfl, hbx, hcx⟩ := hy q ps[q] (List.getElem?_eq_getElem hlt)
        have hx0 := hcx 0 _ rfl
        have hx1 := hcx 1 _ rfl
        have hx2 := hcx 2 _ rfl
        simp only [Nat.add_zero] at hx0
        have HS := hid (all_snoc puOk ps q hlt)
        have HA := hid han
        have HM := hid (fun e => all_miss (p := puOk) hlt e)
        clear hcx hy han
        generalize ps[q] = x at *
        by_cases hg : puOk x = true
        · have HG := hid hg
          have hg' := hg
          simp only [puOk, Bool.and_eq_true] at hg'
          obtain ⟨⟨hg1, hg2⟩, hg3⟩ := hg'
          clear HM hg
          go_wp2_with (first | (go_at_call 59; refine (c_spec_l1In _ _ _ _ ).mono ?_; rintro e w' ⟨rfl, hb⟩; have hc := cellOf hb; have hf := frozOf hb; have hz := sizeOf hb; try simp at hz))
          go_roundw
          case rel =>
            refine ⟨q + 1, by omega, by go_num, by rw [HS.out, HA.out, HG.out]; rfl, ?_, ?_, ?_, ?_, ?_, ?_, by (repeat' (first | exact Below.refl _ _ | assumption | refine Below.setCell ?_ ?_ _ | refine Below.drew ?_ | refine Below.alloc ?_ ?_ _ | refine Below.trans ?_ (Below.mono (by assumption) ?_) | (simp; done) | (simp; omega) | omega))⟩
            all_goals first | (simp [go_sem, ↓IntWalk.iteOmega, *]; done) | (simp [go_sem, ↓IntWalk.iteOmega, *]; omega) | omega
          case measure => simp [intOf]; omega
        · have hgf : puOk x = false := by simpa using hg
          have HV := hid (show taskB l h v fs ps = false by rw [taskB, HM.out hgf]; simp)
          clear hg HM
          by_cases hg1 : inB x.1 1 50 = true
          · by_cases hg2 : inB x.2.1 0 20 = true
            · have hg3 : inB x.2.2 0 50 = false := by simpa [puOk, hg1, hg2] using hgf
              clear hgf
              go_wp2_with (first | (go_at_call 59; refine (c_spec_l1In _ _ _ _ ).mono ?_; rintro e w' ⟨rfl, hb⟩; have hc := cellOf hb; have hf := frozOf hb; have hz := sizeOf hb; try simp at hz))
              go_ret
              exact ⟨ret_bool (by rw [HV.out]), by (repeat' (first | exact Below.refl _ _ | assumption | refine Below.setCell ?_ ?_ _ | refine Below.drew ?_ | refine Below.alloc ?_ ?_ _ | refine Below.trans ?_ (Below.mono (by assumption) ?_) | (simp; done) | (simp; omega) | omega))⟩
            · have hg2f : inB x.2.1 0 20 = false := by simpa using hg2
              clear hgf hg2
              go_wp2_with (first | (go_at_call 59; refine (c_spec_l1In _ _ _ _ ).mono ?_; rintro e w' ⟨rfl, hb⟩; have hc := cellOf hb; have hf := frozOf hb; have hz := sizeOf hb; try simp at hz))
              go_ret
              exact ⟨ret_bool (by rw [HV.out]), by (repeat' (first | exact Below.refl _ _ | assumption | refine Below.setCell ?_ ?_ _ | refine Below.drew ?_ | refine Below.alloc ?_ ?_ _ | refine Below.trans ?_ (Below.mono (by assumption) ?_) | (simp; done) | (simp; omega) | omega))⟩
          · have hg1f : inB x.1 1 50 = false := by simpa using hg1
            clear hgf hg1
            go_wp2_with (first | (go_at_call 59; refine (c_spec_l1In _ _ _ _ ).mono ?_; rintro e w' ⟨rfl, hb⟩; have hc := cellOf hb; have hf := frozOf hb; have hz := sizeOf hb; try simp at hz))
            go_ret
            exact ⟨ret_bool (by rw [HV.out]), by (repeat' (first | exact Below.refl _ _ | assumption | refine Below.setCell ?_ ?_ _ | refine Below.drew ?_ | refine Below.alloc ?_ ?_ _ | refine Below.trans ?_ (Below.mono (by assumption) ?_) | (simp; done) | (simp; omega) | omega))⟩
      · obtain rfl : q = ps.length := by omega
        rw [List.take_length] at han
        have HV := hid (show taskB l h v fs ps = headB l h v fs.length ps.length by rw [taskB, HFL.out, han]; simp)
        clear han hy
        go_wp2_with (first | (go_at_call 59; refine (c_spec_l1In _ _ _ _ ).mono ?_; rintro e w' ⟨rfl, hb⟩; have hc := cellOf hb; have hf := frozOf hb; have hz := sizeOf hb; try simp at hz))
        all_goals go_ret
        all_goals exact ⟨ret_bool (by rw [HV.out]; simp [headB, inB]; first | omega | (simp [inB] at *; omega)), by (repeat' (first | exact Below.refl _ _ | assumption | refine Below.setCell ?_ ?_ _ | refine Below.drew ?_ | refine Below.alloc ?_ ?_ _ | refine Below.trans ?_ (Below.mono (by assumption) ?_) | (simp; done) | (simp; omega) | omega))⟩

end Go.Proofs.Ytpaclngjmdacjaa
